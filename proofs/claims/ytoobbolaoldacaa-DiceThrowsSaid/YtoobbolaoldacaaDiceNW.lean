/-
  The walk of DiceNone (printed by tools/mkdicenw.py).
-/
import Derived.Test.YtoobbolaoldacaaDiceN
import Derived.LoopTactic
namespace Go.Proofs.Ytoobbolaoldacaa.DiceW
open Go.RowKit Go.Proofs.Ytoobbolaoldacaa Go.Proofs.Ytoobbolaoldacaa.Dice Go.Proofs.Ytoobbolaoldacaa.DiceP Go.Proofs.Ytoobbolaoldacaa.RowOwn Go.Proofs.YtoobbolaoldacaaW.PrintWords Go.Proofs.YtoobbolaoldacaaW.PrintLast Go.Proofs.YtoobbolaoldacaaW.PrintMore
set_option linter.unusedVariables false
def NI (w : World) (c0 c1 c2 c3 c4 a0 a1 a2 a3 a4 a5 a6 a7 : Int) (W : World) : Prop :=
  W.heap[w.heap.size]? = some (.cells #[.int .i64 c0, .int .i64 c1, .int .i64 c2, .int .i64 c3, .int .i64 c4] 92 (0, 0)) ∧ W.heap[w.heap.size + 1]? = some (.cells #[.int .i64 a0, .int .i64 a1, .int .i64 a2, .int .i64 a3, .int .i64 a4, .int .i64 a5, .int .i64 a6, .int .i64 a7] 93 (0, 0)) ∧ DAt 113 W (w.heap.size + 1 + 1) 0 ∧ W.heap[w.heap.size + 1 + 1 + 1]? = some (.cells #[.pointer none, .pointer (some ⟨w.heap.size + 1 + 1, 0, none⟩)] 96 (0, 0)) ∧ Below w.heap.size w W
section
variable {w W W' : World} {c0 c1 c2 c3 c4 a0 a1 a2 a3 a4 a5 a6 a7 : Int}
theorem ni_below (h : NI w c0 c1 c2 c3 c4 a0 a1 a2 a3 a4 a5 a6 a7 W) (hb : Below W.heap.size W W') : NI w c0 c1 c2 c3 c4 a0 a1 a2 a3 a4 a5 a6 a7 W' :=
  ⟨keep_at_all h.1 hb, keep_at_all h.2.1 hb, d_below h.2.2.1 hb, keep_at_all h.2.2.2.1 hb, bl_then h.2.2.2.2 hb⟩
theorem ni_ws (h : NI w c0 c1 c2 c3 c4 a0 a1 a2 a3 a4 a5 a6 a7 W) : W.cell? ⟨w.heap.size + 1, 0, none⟩ = some (.int .i64 a0) ∧ W.cell? ⟨w.heap.size + 1, 1, none⟩ = some (.int .i64 a1) ∧ W.cell? ⟨w.heap.size + 1, 2, none⟩ = some (.int .i64 a2) ∧ W.cell? ⟨w.heap.size + 1, 3, none⟩ = some (.int .i64 a3) ∧ W.cell? ⟨w.heap.size + 1, 4, none⟩ = some (.int .i64 a4) ∧ W.cell? ⟨w.heap.size + 1, 5, none⟩ = some (.int .i64 a5) ∧ W.cell? ⟨w.heap.size + 1, 6, none⟩ = some (.int .i64 a6) ∧ W.cell? ⟨w.heap.size + 1, 7, none⟩ = some (.int .i64 a7) :=
  ⟨blk_cell h.2.1 0, blk_cell h.2.1 1, blk_cell h.2.1 2, blk_cell h.2.1 3, blk_cell h.2.1 4, blk_cell h.2.1 5, blk_cell h.2.1 6, blk_cell h.2.1 7⟩
theorem ni_cf (h : NI w c0 c1 c2 c3 c4 a0 a1 a2 a3 a4 a5 a6 a7 W) : W.cell? ⟨w.heap.size, 0, none⟩ = some (.int .i64 c0) ∧ W.cell? ⟨w.heap.size, 1, none⟩ = some (.int .i64 c1) ∧ W.cell? ⟨w.heap.size, 2, none⟩ = some (.int .i64 c2) ∧ W.cell? ⟨w.heap.size, 3, none⟩ = some (.int .i64 c3) ∧ W.cell? ⟨w.heap.size, 4, none⟩ = some (.int .i64 c4) :=
  ⟨blk_cell h.1 0, blk_cell h.1 1, blk_cell h.1 2, blk_cell h.1 3, blk_cell h.1 4⟩
end
theorem new_at3 (w : World) (o o' o2 o3 : Obj) : ((((w.alloc o).alloc o').alloc o2).alloc o3).heap[w.heap.size + 3]? = some o3 := by
  have h := new_at (((w.alloc o).alloc o').alloc o2) o3
  rwa [World.size_alloc, World.size_alloc, World.size_alloc] at h
theorem same0 (w : World) : Calls Try.prog 47 #[.agg Z4, .agg Z4] w fun e w' => e = .returned (.bool true) ∧ Below w.heap.size w w' :=
  twainref28_Same.calls 0 0 0 none 0 [] 0 0 0 none 0 [] true w (Kd.C_nil _ _) (Nat.le_refl _) (Kd.C_nil _ _) (Nat.le_refl _) (by decide +kernel)
set_option maxRecDepth 20000 in
set_option maxHeartbeats 4000000 in
theorem none_walk (c0 c1 c2 c3 c4 a0 a1 a2 a3 a4 a5 a6 a7 n : Int) (w : World) : Calls Try.prog 10 #[Cf c0 c1 c2 c3 c4, W8 a0 a1 a2 a3 a4 a5 a6 a7, .int .i64 n] w fun e w' => e = .returned (.bool true) ∧ Below w.heap.size w w' := by
  go_enter Try.func10, Try.ntmps10
  go_upto_region 2 with (fail)
  have hI : NI w c0 c1 c2 c3 c4 a0 a1 a2 a3 a4 a5 a6 a7 ((((w.alloc (.cells #[.int .i64 c0, .int .i64 c1, .int .i64 c2, .int .i64 c3, .int .i64 c4] 92)).alloc (.cells #[.int .i64 a0, .int .i64 a1, .int .i64 a2, .int .i64 a3, .int .i64 a4, .int .i64 a5, .int .i64 a6, .int .i64 a7] 93)).alloc (.cells #[.int .u64 0] 113)).alloc (.cells #[.pointer none, .pointer (some ⟨w.heap.size + 1 + 1, 0, none⟩)] 96)) :=
    ⟨old_at (old_at (old_at (new_at _ _) _) _) _, old_at (old_at (new_at1 _ _ _) _) _, old_at (new_at2 _ _ _ _) _, new_at3 _ _ _ _ _, bl_all (bl_all (bl_all (bl_all (Below.refl _ _) _) _) _) _⟩
  generalize (((w.alloc (.cells #[.int .i64 c0, .int .i64 c1, .int .i64 c2, .int .i64 c3, .int .i64 c4] 92)).alloc (.cells #[.int .i64 a0, .int .i64 a1, .int .i64 a2, .int .i64 a3, .int .i64 a4, .int .i64 a5, .int .i64 a6, .int .i64 a7] 93)).alloc (.cells #[.int .u64 0] 113)).alloc (.cells #[.pointer none, .pointer (some ⟨w.heap.size + 1 + 1, 0, none⟩)] 96) = W0 at hI ⊢
  have HI0 := Lib.hid hI
  clear hI
  go_wp2_with fail
  refine wp_loop_rounds 3 ?_
  rw [rounds_succ]
  have x00 : W0.cell? ⟨w.heap.size + 1 + 1 + 1, 0, none⟩ = some (.pointer none) := blk_cell HI0.out.2.2.2.1 0
  have x01 : W0.cell? ⟨w.heap.size + 1 + 1 + 1, 1, none⟩ = some (.pointer (some ⟨w.heap.size + 1 + 1, 0, none⟩)) := blk_cell HI0.out.2.2.2.1 1
  obtain ⟨f0, f1, f2, f3, f4⟩ := ni_cf HI0.out
  obtain ⟨e0, e1, e2, e3, e4, e5, e6, e7⟩ := ni_ws HI0.out
  have ND0 := Lib.hid (show NoD none W0 from .inl rfl)
  go_wp2_with fail
  refine (act_no none c0 c1 c2 c3 c4 a0 a1 a2 a3 a4 a5 a6 a7 _ ND0.out).mono ?_
  rintro e s0 ⟨rfl, hb0⟩
  clear f0 f1 f2 f3 f4 e0 e1 e2 e3 e4 e5 e6 e7 x00 x01
  have hi0 := ni_below HI0.out (bl_all hb0 (.cells Z8 106))
  have hn0 := nod_below ND0.out (bl_all hb0 (.cells Z8 106))
  have hz0 := new_at s0 (.cells Z8 106)
  have K0 := Lib.hid hi0
  have N0 := Lib.hid hn0
  have Z0 := Lib.hid hz0
  obtain ⟨f0, f1, f2, f3, f4⟩ := ni_cf hi0
  obtain ⟨k0, k1, k2, k3, k4, k5, k6, k7⟩ := cl8 hz0
  clear hi0 hn0 hz0
  go_wp2_with fail
  generalize hs0 : s0.alloc (.cells Z8 106) = t0 at f0 f1 f2 f3 f4 k0 k1 k2 k3 k4 k5 k6 k7 K0 N0 Z0 ⊢
  clear hs0
  refine (next_no none _ N0.out).mono ?_
  rintro e w' ⟨rfl, rfl⟩
  go_wp2_with fail
  refine (below_no none n _ N0.out).mono ?_
  rintro e w' ⟨rfl, rfl⟩
  go_wp2_with fail
  refine (request_no none c0 c1 c2 c3 c4 _ N0.out).mono ?_
  rintro e u0 ⟨rfl, hu0⟩
  clear f0 f1 f2 f3 f4 k0 k1 k2 k3 k4 k5 k6 k7
  go_wp2_with fail
  refine (same0 _).mono ?_
  rintro e v0 ⟨rfl, hv0⟩
  have hw0 := bl_then hu0 hv0
  have HI1 := Lib.hid (ni_below K0.out hw0)
  obtain ⟨k0, k1, k2, k3, k4, k5, k6, k7⟩ := cl8 (keep_at_all Z0.out hw0)
  clear hw0 hu0 hv0
  go_wp2_with fail
  refine (same0 _).mono ?_
  rintro e y0 ⟨rfl, hy0⟩
  have HI1 := Lib.hid (ni_below HI1.out hy0)
  clear k0 k1 k2 k3 k4 k5 k6 k7 hy0
  go_wp2_with fail
  rw [rounds_succ]
  have x10 : y0.cell? ⟨w.heap.size + 1 + 1 + 1, 0, none⟩ = some (.pointer none) := blk_cell HI1.out.2.2.2.1 0
  have x11 : y0.cell? ⟨w.heap.size + 1 + 1 + 1, 1, none⟩ = some (.pointer (some ⟨w.heap.size + 1 + 1, 0, none⟩)) := blk_cell HI1.out.2.2.2.1 1
  obtain ⟨f0, f1, f2, f3, f4⟩ := ni_cf HI1.out
  obtain ⟨e0, e1, e2, e3, e4, e5, e6, e7⟩ := ni_ws HI1.out
  have ND1 := Lib.hid (show NoD (some ⟨w.heap.size + 1 + 1, 0, none⟩) y0 from .inr ⟨_, rfl, HI1.out.2.2.1⟩)
  go_wp2_with fail
  refine (act_no (some ⟨w.heap.size + 1 + 1, 0, none⟩) c0 c1 c2 c3 c4 a0 a1 a2 a3 a4 a5 a6 a7 _ ND1.out).mono ?_
  rintro e s1 ⟨rfl, hb1⟩
  clear f0 f1 f2 f3 f4 e0 e1 e2 e3 e4 e5 e6 e7 x10 x11
  have hi1 := ni_below HI1.out (bl_all hb1 (.cells Z8 106))
  have hn1 := nod_below ND1.out (bl_all hb1 (.cells Z8 106))
  have hz1 := new_at s1 (.cells Z8 106)
  have K1 := Lib.hid hi1
  have N1 := Lib.hid hn1
  have Z1 := Lib.hid hz1
  obtain ⟨f0, f1, f2, f3, f4⟩ := ni_cf hi1
  obtain ⟨k0, k1, k2, k3, k4, k5, k6, k7⟩ := cl8 hz1
  clear hi1 hn1 hz1
  go_wp2_with fail
  generalize hs1 : s1.alloc (.cells Z8 106) = t1 at f0 f1 f2 f3 f4 k0 k1 k2 k3 k4 k5 k6 k7 K1 N1 Z1 ⊢
  clear hs1
  refine (next_no (some ⟨w.heap.size + 1 + 1, 0, none⟩) _ N1.out).mono ?_
  rintro e w' ⟨rfl, rfl⟩
  go_wp2_with fail
  refine (below_no (some ⟨w.heap.size + 1 + 1, 0, none⟩) n _ N1.out).mono ?_
  rintro e w' ⟨rfl, rfl⟩
  go_wp2_with fail
  refine (request_no (some ⟨w.heap.size + 1 + 1, 0, none⟩) c0 c1 c2 c3 c4 _ N1.out).mono ?_
  rintro e u1 ⟨rfl, hu1⟩
  clear f0 f1 f2 f3 f4 k0 k1 k2 k3 k4 k5 k6 k7
  go_wp2_with fail
  refine (same0 _).mono ?_
  rintro e v1 ⟨rfl, hv1⟩
  have hw1 := bl_then hu1 hv1
  have HI2 := Lib.hid (ni_below K1.out hw1)
  obtain ⟨k0, k1, k2, k3, k4, k5, k6, k7⟩ := cl8 (keep_at_all Z1.out hw1)
  clear hw1 hu1 hv1
  go_wp2_with fail
  refine (same0 _).mono ?_
  rintro e y1 ⟨rfl, hy1⟩
  have HI2 := Lib.hid (ni_below HI2.out hy1)
  clear k0 k1 k2 k3 k4 k5 k6 k7 hy1
  go_wp2_with fail
  rw [rounds_succ]
  go_wp2_with fail
  refine (lives41 _).mono ?_
  rintro e w' ⟨rfl, hb⟩
  go_wp2_with fail
  go_ret
  exact ⟨rfl, bl_then HI2.out.2.2.2.2 hb⟩
end Go.Proofs.Ytoobbolaoldacaa.DiceW
