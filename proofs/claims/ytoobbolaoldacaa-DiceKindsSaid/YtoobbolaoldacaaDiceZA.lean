/-
  Dice that a call made, where the settings or the weights may not be: acts.
-/
import Derived.Test.YtoobbolaoldacaaDiceZ
namespace Go.Proofs.Ytoobbolaoldacaa.DiceW
open Go.RowKit Go.Proofs.Ytoobbolaoldacaa Go.Proofs.Ytoobbolaoldacaa.Dice Go.Proofs.Ytoobbolaoldacaa.DiceP Go.Proofs.Ytoobbolaoldacaa.RowOwn Go.Proofs.YtoobbolaoldacaaW.PrintWords Go.Proofs.YtoobbolaoldacaaW.PrintLast Go.Proofs.YtoobbolaoldacaaW.PrintMore
set_option linter.unusedVariables false
set_option maxRecDepth 20000 in
theorem act_bad1 (g x : Nat) (c0 c1 c2 c3 c4 a0 a1 a2 a3 a4 a5 a6 a7 : Int) (w : World) (hl : Live x) (hgood : reqGood c0 c1 c2 c3 c4 = false) (h : DAt 113 w g x) :
    Calls Try.prog 51 #[.pointer (some ⟨g, 0, none⟩), Cf c0 c1 c2 c3 c4, W8 a0 a1 a2 a3 a4 a5 a6 a7] w fun e w' => e = .returned (.agg Z8) ∧ Below w.heap.size w w' := by
  have hb : Below w.heap.size w (((w.alloc (.cells #[.int .i64 c0, .int .i64 c1, .int .i64 c2, .int .i64 c3, .int .i64 c4] 92)).alloc (.cells #[.int .i64 a0, .int .i64 a1, .int .i64 a2, .int .i64 a3, .int .i64 a4, .int .i64 a5, .int .i64 a6, .int .i64 a7] 110)).alloc (.cells Z8 106)) := bl_all (bl_all (bl_all (Below.refl _ _) _) _) _
  have hn := d_below h hb
  have GD := Lib.hid (fun w => reqGood_walk c0 c1 c2 c3 c4 w)
  have HG := Lib.hid hgood
  have hc := old_at (old_at (new_at w (.cells #[.int .i64 c0, .int .i64 c1, .int .i64 c2, .int .i64 c3, .int .i64 c4] 92)) (.cells #[.int .i64 a0, .int .i64 a1, .int .i64 a2, .int .i64 a3, .int .i64 a4, .int .i64 a5, .int .i64 a6, .int .i64 a7] 110)) (.cells Z8 106)
  have hz := new_at2 w (.cells #[.int .i64 c0, .int .i64 c1, .int .i64 c2, .int .i64 c3, .int .i64 c4] 92) (.cells #[.int .i64 a0, .int .i64 a1, .int .i64 a2, .int .i64 a3, .int .i64 a4, .int .i64 a5, .int .i64 a6, .int .i64 a7] 110) (.cells Z8 106)
  have hy : (((w.alloc (.cells #[.int .i64 c0, .int .i64 c1, .int .i64 c2, .int .i64 c3, .int .i64 c4] 92)).alloc (.cells #[.int .i64 a0, .int .i64 a1, .int .i64 a2, .int .i64 a3, .int .i64 a4, .int .i64 a5, .int .i64 a6, .int .i64 a7] 110)).alloc (.cells Z8 106)).heap[w.heap.size + 1]? = some (.cells #[.int .i64 a0, .int .i64 a1, .int .i64 a2, .int .i64 a3, .int .i64 a4, .int .i64 a5, .int .i64 a6, .int .i64 a7] 110 (0, 0)) := old_at (new_at1 w _ _) _
  have HB := Lib.hid hb
  have SM := Lib.hid (fun w => sum_walk a0 a1 a2 a3 a4 a5 a6 a7 w)
  clear h hb hgood
  go_enter Try.func51, Try.ntmps51
  go_upto_region 1 with (fail)
  generalize ((w.alloc (.cells #[.int .i64 c0, .int .i64 c1, .int .i64 c2, .int .i64 c3, .int .i64 c4] 92)).alloc (.cells #[.int .i64 a0, .int .i64 a1, .int .i64 a2, .int .i64 a3, .int .i64 a4, .int .i64 a5, .int .i64 a6, .int .i64 a7] 110)).alloc (.cells Z8 106) = W at hz hn hy hc HB ⊢
  have HC := Lib.hid hc
  clear hc
  obtain ⟨e0, e1, e2, e3, e4, e5, e6, e7⟩ := cl8 hy
  have HZ := Lib.hid hz
  have HN := Lib.hid hn
  clear hz hn hy
  go_wp2_with (first
    | (go_at_call 87; refine (SM.out _).mono ?_; rintro e w1 ⟨rfl, hb1⟩; have IS := Lib.hid (is_yes g x _ hl (d_below HN.out hb1)); have hc1 := keep_at_all HC.out hb1; have f0 := blk_cell hc1 0; have f1 := blk_cell hc1 1; have f2 := blk_cell hc1 2; have f3 := blk_cell hc1 3; have f4 := blk_cell hc1 4; clear hc1; have hz1 := keep_at_all HZ.out hb1; have HZ1 := Lib.hid hz1; have HB1 := Lib.hid (bl_then HB.out hb1); clear e0 e1 e2 e3 e4 e5 e6 e7; obtain ⟨m0, m1, m2, m3, m4, m5, m6, m7⟩ := fz8 hz1; obtain ⟨k0, k1, k2, k3, k4, k5, k6, k7⟩ := cl8 hz1; clear hz1 hb1)
    | (go_at_call 83; refine IS.out.mono ?_; rintro e w' ⟨rfl, rfl⟩)
    | (go_at_call 53; refine (GD.out _).mono ?_; rw [HG.out]; rintro e w3 ⟨rfl, hb3⟩; have hz3 := keep_at_all HZ1.out hb3; have HB3 := Lib.hid (bl_then HB1.out hb3); have HZ3 := Lib.hid hz3; clear m0 m1 m2 m3 m4 m5 m6 m7 k0 k1 k2 k3 k4 k5 k6 k7 f0 f1 f2 f3 f4 hb3; obtain ⟨m0, m1, m2, m3, m4, m5, m6, m7⟩ := fz8 hz3; obtain ⟨k0, k1, k2, k3, k4, k5, k6, k7⟩ := cl8 hz3; clear hz3))
  refine bodyPost_ret (results_cell_row rfl _ _ (w.heap.size + 2) 106 Z8 (0, 0) _ rfl (set8 HZ3.out) Try.underlying106 rfl (by kernel_rfl)) rfl ?_
  exact ⟨rfl, (only8 _ _ _ _ _ _ _ _ _ _).to_below HB3.out (fun k hk => by omega) HB3.out.size⟩
set_option maxRecDepth 20000 in
theorem act_bad2 (g x : Nat) (c0 c1 c2 c3 c4 a0 a1 a2 a3 a4 a5 a6 a7 : Int) (w : World) (hl : Live x) (hgood : reqGood c0 c1 c2 c3 c4 = true) (hsum : sum8 a0 a1 a2 a3 a4 a5 a6 a7 = 0) (h : DAt 113 w g x) :
    Calls Try.prog 51 #[.pointer (some ⟨g, 0, none⟩), Cf c0 c1 c2 c3 c4, W8 a0 a1 a2 a3 a4 a5 a6 a7] w fun e w' => e = .returned (.agg Z8) ∧ Below w.heap.size w w' := by
  have hb : Below w.heap.size w (((w.alloc (.cells #[.int .i64 c0, .int .i64 c1, .int .i64 c2, .int .i64 c3, .int .i64 c4] 92)).alloc (.cells #[.int .i64 a0, .int .i64 a1, .int .i64 a2, .int .i64 a3, .int .i64 a4, .int .i64 a5, .int .i64 a6, .int .i64 a7] 110)).alloc (.cells Z8 106)) := bl_all (bl_all (bl_all (Below.refl _ _) _) _) _
  have hn := d_below h hb
  have GD := Lib.hid (fun w => reqGood_walk c0 c1 c2 c3 c4 w)
  have HG := Lib.hid hgood
  have hc := old_at (old_at (new_at w (.cells #[.int .i64 c0, .int .i64 c1, .int .i64 c2, .int .i64 c3, .int .i64 c4] 92)) (.cells #[.int .i64 a0, .int .i64 a1, .int .i64 a2, .int .i64 a3, .int .i64 a4, .int .i64 a5, .int .i64 a6, .int .i64 a7] 110)) (.cells Z8 106)
  have hz := new_at2 w (.cells #[.int .i64 c0, .int .i64 c1, .int .i64 c2, .int .i64 c3, .int .i64 c4] 92) (.cells #[.int .i64 a0, .int .i64 a1, .int .i64 a2, .int .i64 a3, .int .i64 a4, .int .i64 a5, .int .i64 a6, .int .i64 a7] 110) (.cells Z8 106)
  have hy : (((w.alloc (.cells #[.int .i64 c0, .int .i64 c1, .int .i64 c2, .int .i64 c3, .int .i64 c4] 92)).alloc (.cells #[.int .i64 a0, .int .i64 a1, .int .i64 a2, .int .i64 a3, .int .i64 a4, .int .i64 a5, .int .i64 a6, .int .i64 a7] 110)).alloc (.cells Z8 106)).heap[w.heap.size + 1]? = some (.cells #[.int .i64 a0, .int .i64 a1, .int .i64 a2, .int .i64 a3, .int .i64 a4, .int .i64 a5, .int .i64 a6, .int .i64 a7] 110 (0, 0)) := old_at (new_at1 w _ _) _
  have HB := Lib.hid hb
  have SM := Lib.hid (fun w => sum_walk a0 a1 a2 a3 a4 a5 a6 a7 w)
  clear h hb hgood
  have HSM := Lib.hid hsum
  clear hsum
  go_enter Try.func51, Try.ntmps51
  go_upto_region 1 with (fail)
  generalize ((w.alloc (.cells #[.int .i64 c0, .int .i64 c1, .int .i64 c2, .int .i64 c3, .int .i64 c4] 92)).alloc (.cells #[.int .i64 a0, .int .i64 a1, .int .i64 a2, .int .i64 a3, .int .i64 a4, .int .i64 a5, .int .i64 a6, .int .i64 a7] 110)).alloc (.cells Z8 106) = W at hz hn hy hc HB ⊢
  have HC := Lib.hid hc
  clear hc
  obtain ⟨e0, e1, e2, e3, e4, e5, e6, e7⟩ := cl8 hy
  have HZ := Lib.hid hz
  have HN := Lib.hid hn
  clear hz hn hy
  go_wp2_with (first
    | (go_at_call 87; refine (SM.out _).mono ?_; rintro e w1 ⟨rfl, hb1⟩; have IS := Lib.hid (is_yes g x _ hl (d_below HN.out hb1)); have hc1 := keep_at_all HC.out hb1; have f0 := blk_cell hc1 0; have f1 := blk_cell hc1 1; have f2 := blk_cell hc1 2; have f3 := blk_cell hc1 3; have f4 := blk_cell hc1 4; clear hc1; have hs0 : sum8 a0 a1 a2 a3 a4 a5 a6 a7 = 0 := HSM.out; have hz1 := keep_at_all HZ.out hb1; have HZ1 := Lib.hid hz1; have HB1 := Lib.hid (bl_then HB.out hb1); clear e0 e1 e2 e3 e4 e5 e6 e7; obtain ⟨m0, m1, m2, m3, m4, m5, m6, m7⟩ := fz8 hz1; obtain ⟨k0, k1, k2, k3, k4, k5, k6, k7⟩ := cl8 hz1; clear hz1 hb1)
    | (go_at_call 83; refine IS.out.mono ?_; rintro e w' ⟨rfl, rfl⟩)
    | (go_at_call 53; refine (GD.out _).mono ?_; rw [HG.out]; rintro e w3 ⟨rfl, hb3⟩; have hz3 := keep_at_all HZ1.out hb3; have HB3 := Lib.hid (bl_then HB1.out hb3); have HZ3 := Lib.hid hz3; clear m0 m1 m2 m3 m4 m5 m6 m7 k0 k1 k2 k3 k4 k5 k6 k7 f0 f1 f2 f3 f4 hb3; obtain ⟨m0, m1, m2, m3, m4, m5, m6, m7⟩ := fz8 hz3; obtain ⟨k0, k1, k2, k3, k4, k5, k6, k7⟩ := cl8 hz3; clear hz3))
  refine bodyPost_ret (results_cell_row rfl _ _ (w.heap.size + 2) 106 Z8 (0, 0) _ rfl (set8 HZ3.out) Try.underlying106 rfl (by kernel_rfl)) rfl ?_
  exact ⟨rfl, (only8 _ _ _ _ _ _ _ _ _ _).to_below HB3.out (fun k hk => by omega) HB3.out.size⟩
end Go.Proofs.Ytoobbolaoldacaa.DiceW
