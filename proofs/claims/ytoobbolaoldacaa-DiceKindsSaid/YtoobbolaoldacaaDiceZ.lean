/-
  Dice that a call made, where the settings may not be: requests.
-/
import Derived.Test.YtoobbolaoldacaaDiceY
namespace Go.Proofs.Ytoobbolaoldacaa.DiceW
open Go.RowKit Go.Proofs.Ytoobbolaoldacaa Go.Proofs.Ytoobbolaoldacaa.Dice Go.Proofs.Ytoobbolaoldacaa.DiceP Go.Proofs.Ytoobbolaoldacaa.RowOwn Go.Proofs.YtoobbolaoldacaaW.PrintWords Go.Proofs.YtoobbolaoldacaaW.PrintLast Go.Proofs.YtoobbolaoldacaaW.PrintMore
set_option linter.unusedVariables false
set_option maxRecDepth 20000 in
theorem request_bad (g x : Nat) (c0 c1 c2 c3 c4 : Int) (w : World) (hl : Live x) (hgood : reqGood c0 c1 c2 c3 c4 = false) (h : DAt 113 w g x) :
    Calls Try.prog 48 #[.pointer (some ⟨g, 0, none⟩), Cf c0 c1 c2 c3 c4] w fun e w' => e = .returned (.agg Z4) ∧ Below w.heap.size w w' := by
  have hb : Below w.heap.size w ((w.alloc (.cells #[.int .i64 c0, .int .i64 c1, .int .i64 c2, .int .i64 c3, .int .i64 c4] 92)).alloc (.cells Z4 103)) := bl_all (bl_all (Below.refl _ _) _) _
  have IS := Lib.hid (is_yes g x _ hl (d_below h hb))
  have GD := Lib.hid (fun w => reqGood_walk c0 c1 c2 c3 c4 w)
  have HG := Lib.hid hgood
  have hc := old_at (new_at w (.cells #[.int .i64 c0, .int .i64 c1, .int .i64 c2, .int .i64 c3, .int .i64 c4] 92)) (.cells Z4 103)
  have hz := new_at1 w (.cells #[.int .i64 c0, .int .i64 c1, .int .i64 c2, .int .i64 c3, .int .i64 c4] 92) (.cells Z4 103)
  have HB := Lib.hid hb
  clear h hb hgood
  go_enter Try.func48, Try.ntmps48
  go_upto_region 1 with (fail)
  generalize (w.alloc (.cells #[.int .i64 c0, .int .i64 c1, .int .i64 c2, .int .i64 c3, .int .i64 c4] 92)).alloc (.cells Z4 103) = W at hz hc IS HB ⊢
  have f0 := blk_cell hc 0
  have f1 := blk_cell hc 1
  have f2 := blk_cell hc 2
  have f3 := blk_cell hc 3
  have f4 := blk_cell hc 4
  have hf0 := blk_frozen hz 0
  have hf1 := blk_frozen hz 1
  have hf2 := blk_frozen hz 2
  have hf3 := blk_frozen hz 3
  have hk0 := blk_cell hz 0
  have hk1 := blk_cell hz 1
  have hk2 := blk_cell hz 2
  have hk3 := blk_cell hz 3
  have HZ := Lib.hid hz
  clear hz
  clear hc
  go_wp2_with (first
    | (go_at_call 83; refine IS.out.mono ?_; rintro e w' ⟨rfl, rfl⟩)
    | (go_at_call 53; refine (GD.out _).mono ?_; rw [HG.out]; rintro e w3 ⟨rfl, hb3⟩; have hz3 := keep_at_all HZ.out hb3; have HB3 := Lib.hid (bl_then HB.out hb3); have HZ3 := Lib.hid hz3; clear hf0 hf1 hf2 hf3 hk0 hk1 hk2 hk3 f0 f1 f2 f3 f4 hb3; obtain ⟨hf0, hf1, hf2, hf3⟩ := fz4 hz3; obtain ⟨hk0, hk1, hk2, hk3⟩ := cl4 hz3; clear hz3))
  refine bodyPost_ret (results_cell_row rfl _ _ (w.heap.size + 1) 103 Z4 (0, 0) _ rfl (set4 HZ3.out) Try.underlying103 rfl (by kernel_rfl)) rfl ?_
  exact ⟨rfl, (only4 _ _ _ _ _ _).to_below HB3.out (fun k hk => by omega) HB3.out.size⟩
set_option maxRecDepth 20000 in
theorem rrequest_bad (g x : Nat) (c0 c1 c2 c3 c4 : Int) (w : World) (hl : Live x) (hgood : reqGood c0 c1 c2 c3 c4 = false) (h : DAt 149 w g x) :
    Calls Try.prog 49 #[.pointer (some ⟨g, 0, none⟩), Cf c0 c1 c2 c3 c4] w fun e w' => e = .returned (.agg Z4) ∧ Below w.heap.size w w' := by
  have hb : Below w.heap.size w ((w.alloc (.cells #[.int .i64 c0, .int .i64 c1, .int .i64 c2, .int .i64 c3, .int .i64 c4] 92)).alloc (.cells Z4 103)) := bl_all (bl_all (Below.refl _ _) _) _
  have GD := Lib.hid (fun w => twainref28_Good.calls c0 c1 c2 c3 c4 false w (by rw [ref_good28, hgood]))
  have HG := Lib.hid hgood
  have hc := old_at (new_at w (.cells #[.int .i64 c0, .int .i64 c1, .int .i64 c2, .int .i64 c3, .int .i64 c4] 92)) (.cells Z4 103)
  have hz := new_at1 w (.cells #[.int .i64 c0, .int .i64 c1, .int .i64 c2, .int .i64 c3, .int .i64 c4] 92) (.cells Z4 103)
  have HB := Lib.hid hb
  clear h hb hgood
  go_enter Try.func49, Try.ntmps49
  go_upto_region 1 with (fail)
  generalize (w.alloc (.cells #[.int .i64 c0, .int .i64 c1, .int .i64 c2, .int .i64 c3, .int .i64 c4] 92)).alloc (.cells Z4 103) = W at hz hc HB ⊢
  have f0 := blk_cell hc 0
  have f1 := blk_cell hc 1
  have f2 := blk_cell hc 2
  have f3 := blk_cell hc 3
  have f4 := blk_cell hc 4
  have hf0 := blk_frozen hz 0
  have hf1 := blk_frozen hz 1
  have hf2 := blk_frozen hz 2
  have hf3 := blk_frozen hz 3
  have hk0 := blk_cell hz 0
  have hk1 := blk_cell hz 1
  have hk2 := blk_cell hz 2
  have hk3 := blk_cell hz 3
  have HZ := Lib.hid hz
  clear hz
  clear hc
  go_wp2_with (first
    | (go_at_call 86; refine (GD.out _).mono ?_; rintro e w3 ⟨rfl, hb3⟩; have hz3 := keep_at_all HZ.out hb3; have HB3 := Lib.hid (bl_then HB.out hb3); have HZ3 := Lib.hid hz3; clear hf0 hf1 hf2 hf3 hk0 hk1 hk2 hk3 f0 f1 f2 f3 f4 hb3; obtain ⟨hf0, hf1, hf2, hf3⟩ := fz4 hz3; obtain ⟨hk0, hk1, hk2, hk3⟩ := cl4 hz3; clear hz3))
  refine bodyPost_ret (results_cell_row rfl _ _ (w.heap.size + 1) 103 Z4 (0, 0) _ rfl (set4 HZ3.out) Try.underlying103 rfl (by kernel_rfl)) rfl ?_
  exact ⟨rfl, (only4 _ _ _ _ _ _).to_below HB3.out (fun k hk => by omega) HB3.out.size⟩
end Go.Proofs.Ytoobbolaoldacaa.DiceW
