/-
  Dice of the reference, where the settings or the weights may not be: acts.
-/
import Derived.Test.YtoobbolaoldacaaDiceZA
namespace Go.Proofs.Ytoobbolaoldacaa.DiceW
open Go.RowKit Go.Proofs.Ytoobbolaoldacaa Go.Proofs.Ytoobbolaoldacaa.Dice Go.Proofs.Ytoobbolaoldacaa.DiceP Go.Proofs.Ytoobbolaoldacaa.RowOwn Go.Proofs.YtoobbolaoldacaaW.PrintWords Go.Proofs.YtoobbolaoldacaaW.PrintLast Go.Proofs.YtoobbolaoldacaaW.PrintMore
set_option linter.unusedVariables false
set_option maxRecDepth 20000 in
theorem ract_bad1 (p : Option Addr) (c0 c1 c2 c3 c4 a0 a1 a2 a3 a4 a5 a6 a7 : Int) (w : World) (hgood : reqGood c0 c1 c2 c3 c4 = false) :
    Calls Try.prog 50 #[.pointer p, Cf c0 c1 c2 c3 c4, W8 a0 a1 a2 a3 a4 a5 a6 a7] w fun e w' => e = .returned (.agg Z8) ∧ Below w.heap.size w w' := by
  have hb : Below w.heap.size w (((w.alloc (.cells #[.int .i64 c0, .int .i64 c1, .int .i64 c2, .int .i64 c3, .int .i64 c4] 92)).alloc (.cells #[.int .i64 a0, .int .i64 a1, .int .i64 a2, .int .i64 a3, .int .i64 a4, .int .i64 a5, .int .i64 a6, .int .i64 a7] 93)).alloc (.cells Z8 107)) := bl_all (bl_all (bl_all (Below.refl _ _) _) _) _
  have hz := new_at2 w (.cells #[.int .i64 c0, .int .i64 c1, .int .i64 c2, .int .i64 c3, .int .i64 c4] 92) (.cells #[.int .i64 a0, .int .i64 a1, .int .i64 a2, .int .i64 a3, .int .i64 a4, .int .i64 a5, .int .i64 a6, .int .i64 a7] 93) (.cells Z8 107)
  have hy : (((w.alloc (.cells #[.int .i64 c0, .int .i64 c1, .int .i64 c2, .int .i64 c3, .int .i64 c4] 92)).alloc (.cells #[.int .i64 a0, .int .i64 a1, .int .i64 a2, .int .i64 a3, .int .i64 a4, .int .i64 a5, .int .i64 a6, .int .i64 a7] 93)).alloc (.cells Z8 107)).heap[w.heap.size + 1]? = some (.cells #[.int .i64 a0, .int .i64 a1, .int .i64 a2, .int .i64 a3, .int .i64 a4, .int .i64 a5, .int .i64 a6, .int .i64 a7] 93 (0, 0)) := old_at (new_at1 w _ _) _
  have hc := old_at (old_at (new_at w (.cells #[.int .i64 c0, .int .i64 c1, .int .i64 c2, .int .i64 c3, .int .i64 c4] 92)) (.cells #[.int .i64 a0, .int .i64 a1, .int .i64 a2, .int .i64 a3, .int .i64 a4, .int .i64 a5, .int .i64 a6, .int .i64 a7] 93)) (.cells Z8 107)
  have HB := Lib.hid hb
  have SM := Lib.hid (fun w => rsum_walk a0 a1 a2 a3 a4 a5 a6 a7 w)
  have GD := Lib.hid (fun w => twainref28_Good.calls c0 c1 c2 c3 c4 false w (by rw [ref_good28, hgood]))
  skip
  clear hb hgood
  go_enter Try.func50, Try.ntmps50
  go_upto_region 1 with (fail)
  generalize ((w.alloc (.cells #[.int .i64 c0, .int .i64 c1, .int .i64 c2, .int .i64 c3, .int .i64 c4] 92)).alloc (.cells #[.int .i64 a0, .int .i64 a1, .int .i64 a2, .int .i64 a3, .int .i64 a4, .int .i64 a5, .int .i64 a6, .int .i64 a7] 93)).alloc (.cells Z8 107) = W at hz hy hc HB ⊢
  have f0 := blk_cell hc 0
  have f1 := blk_cell hc 1
  have f2 := blk_cell hc 2
  have f3 := blk_cell hc 3
  have f4 := blk_cell hc 4
  have HZ := Lib.hid hz
  have HY := Lib.hid hy
  clear hz hy hc
  go_wp2_with (first
    | (go_at_call 86; refine (GD.out _).mono ?_; rintro e w1 ⟨rfl, hb1⟩; have hz1 := keep_at_all HZ.out hb1; have hy1 := keep_at_all HY.out hb1; have HZ1 := Lib.hid hz1; have HB1 := Lib.hid (bl_then HB.out hb1); clear f0 f1 f2 f3 f4; obtain ⟨e0, e1, e2, e3, e4, e5, e6, e7⟩ := cl8 hy1; obtain ⟨m0, m1, m2, m3, m4, m5, m6, m7⟩ := fz8 hz1; obtain ⟨k0, k1, k2, k3, k4, k5, k6, k7⟩ := cl8 hz1; clear hz1 hy1 hb1))
  refine bodyPost_ret (results_cell_row rfl _ _ (w.heap.size + 2) 107 Z8 (0, 0) _ rfl (set8 HZ1.out) Try.underlying107 rfl (by kernel_rfl)) rfl ?_
  exact ⟨rfl, (only8 _ _ _ _ _ _ _ _ _ _).to_below HB1.out (fun k hk => by omega) HB1.out.size⟩
set_option maxRecDepth 20000 in
theorem ract_bad2 (p : Option Addr) (c0 c1 c2 c3 c4 a0 a1 a2 a3 a4 a5 a6 a7 : Int) (w : World) (hgood : reqGood c0 c1 c2 c3 c4 = true) (hsum : sum8 a0 a1 a2 a3 a4 a5 a6 a7 = 0) :
    Calls Try.prog 50 #[.pointer p, Cf c0 c1 c2 c3 c4, W8 a0 a1 a2 a3 a4 a5 a6 a7] w fun e w' => e = .returned (.agg Z8) ∧ Below w.heap.size w w' := by
  have hb : Below w.heap.size w (((w.alloc (.cells #[.int .i64 c0, .int .i64 c1, .int .i64 c2, .int .i64 c3, .int .i64 c4] 92)).alloc (.cells #[.int .i64 a0, .int .i64 a1, .int .i64 a2, .int .i64 a3, .int .i64 a4, .int .i64 a5, .int .i64 a6, .int .i64 a7] 93)).alloc (.cells Z8 107)) := bl_all (bl_all (bl_all (Below.refl _ _) _) _) _
  have hz := new_at2 w (.cells #[.int .i64 c0, .int .i64 c1, .int .i64 c2, .int .i64 c3, .int .i64 c4] 92) (.cells #[.int .i64 a0, .int .i64 a1, .int .i64 a2, .int .i64 a3, .int .i64 a4, .int .i64 a5, .int .i64 a6, .int .i64 a7] 93) (.cells Z8 107)
  have hy : (((w.alloc (.cells #[.int .i64 c0, .int .i64 c1, .int .i64 c2, .int .i64 c3, .int .i64 c4] 92)).alloc (.cells #[.int .i64 a0, .int .i64 a1, .int .i64 a2, .int .i64 a3, .int .i64 a4, .int .i64 a5, .int .i64 a6, .int .i64 a7] 93)).alloc (.cells Z8 107)).heap[w.heap.size + 1]? = some (.cells #[.int .i64 a0, .int .i64 a1, .int .i64 a2, .int .i64 a3, .int .i64 a4, .int .i64 a5, .int .i64 a6, .int .i64 a7] 93 (0, 0)) := old_at (new_at1 w _ _) _
  have hc := old_at (old_at (new_at w (.cells #[.int .i64 c0, .int .i64 c1, .int .i64 c2, .int .i64 c3, .int .i64 c4] 92)) (.cells #[.int .i64 a0, .int .i64 a1, .int .i64 a2, .int .i64 a3, .int .i64 a4, .int .i64 a5, .int .i64 a6, .int .i64 a7] 93)) (.cells Z8 107)
  have HB := Lib.hid hb
  have SM := Lib.hid (fun w => rsum_walk a0 a1 a2 a3 a4 a5 a6 a7 w)
  have GD := Lib.hid (fun w => twainref28_Good.calls c0 c1 c2 c3 c4 true w (by rw [ref_good28, hgood]))
  have HSM := Lib.hid hsum
  clear hb hgood hsum
  go_enter Try.func50, Try.ntmps50
  go_upto_region 1 with (fail)
  generalize ((w.alloc (.cells #[.int .i64 c0, .int .i64 c1, .int .i64 c2, .int .i64 c3, .int .i64 c4] 92)).alloc (.cells #[.int .i64 a0, .int .i64 a1, .int .i64 a2, .int .i64 a3, .int .i64 a4, .int .i64 a5, .int .i64 a6, .int .i64 a7] 93)).alloc (.cells Z8 107) = W at hz hy hc HB ⊢
  have f0 := blk_cell hc 0
  have f1 := blk_cell hc 1
  have f2 := blk_cell hc 2
  have f3 := blk_cell hc 3
  have f4 := blk_cell hc 4
  have HZ := Lib.hid hz
  have HY := Lib.hid hy
  clear hz hy hc
  go_wp2_with (first
    | (go_at_call 86; refine (GD.out _).mono ?_; rintro e w1 ⟨rfl, hb1⟩; have hz1 := keep_at_all HZ.out hb1; have hy1 := keep_at_all HY.out hb1; have HZ1 := Lib.hid hz1; have HB1 := Lib.hid (bl_then HB.out hb1); clear f0 f1 f2 f3 f4; obtain ⟨e0, e1, e2, e3, e4, e5, e6, e7⟩ := cl8 hy1; obtain ⟨m0, m1, m2, m3, m4, m5, m6, m7⟩ := fz8 hz1; obtain ⟨k0, k1, k2, k3, k4, k5, k6, k7⟩ := cl8 hz1; clear hz1 hy1 hb1)
    | (go_at_call 54; refine (SM.out _).mono ?_; rw [HSM.out]; rintro e w2 ⟨rfl, hb2⟩; have hz2 := keep_at_all HZ1.out hb2; have HB2 := Lib.hid (bl_then HB1.out hb2); have HZ2 := Lib.hid hz2; clear e0 e1 e2 e3 e4 e5 e6 e7 m0 m1 m2 m3 m4 m5 m6 m7 k0 k1 k2 k3 k4 k5 k6 k7 hb2; obtain ⟨m0, m1, m2, m3, m4, m5, m6, m7⟩ := fz8 hz2; obtain ⟨k0, k1, k2, k3, k4, k5, k6, k7⟩ := cl8 hz2; clear hz2))
  refine bodyPost_ret (results_cell_row rfl _ _ (w.heap.size + 2) 107 Z8 (0, 0) _ rfl (set8 HZ2.out) Try.underlying107 rfl (by kernel_rfl)) rfl ?_
  exact ⟨rfl, (only8 _ _ _ _ _ _ _ _ _ _).to_below HB2.out (fun k hk => by omega) HB2.out.size⟩
end Go.Proofs.Ytoobbolaoldacaa.DiceW
