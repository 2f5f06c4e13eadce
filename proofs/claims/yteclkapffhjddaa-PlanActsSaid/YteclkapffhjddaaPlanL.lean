/-
  The example that each statement of layer 27 plays.
-/
import Derived.Test.YteclkapffhjddaaPlanC
namespace Go.Proofs.Yteclkapffhjddaa.PlanW
open Go.RowKit Go.Proofs.Yteclkapffhjddaa Go.Proofs.Yteclkapffhjddaa.Bits Go.Proofs.Yteclkapffhjddaa.BitsPlain Go.Proofs.Yteclkapffhjddaa.BitsPure Go.Proofs.YteclkapffhjddaaW.PrintWords Go.Proofs.YteclkapffhjddaaW.PrintLast Go.Proofs.YteclkapffhjddaaW.PrintMore
set_option linter.unusedVariables false
theorem bl_to {g : Nat} {w W W' : World} (h : Below g w W) (h' : Below W.heap.size W W') (hg : g ≤ W.heap.size) : Below g w W' := h.trans (h'.mono hg)
theorem plan_below {w w' : World} {g m x : Nat} (h : PlanAt w g m x) (hb : Below w.heap.size w w') : PlanAt w' g m x := keep_at_all h hb
theorem lives27 (w : World) : Calls Try.prog 30 #[] w fun e w' => e = .returned (.bool true) ∧ Below w.heap.size w w' := by
  have N := Lib.hid (New_c 5 w)
  have H1 := Lib.hid (fun g w (h : PlanAt w g 5 5) => Have_c g 5 5 0 w (by omega) h)
  have H2 := Lib.hid (fun g w (h : PlanAt w g 5 4) => Have_c g 5 4 0 w (by omega) h)
  have H3 := Lib.hid (fun g w (h : PlanAt w g 5 4) => Have_c g 5 4 2 w (by omega) h)
  have O4 := Lib.hid (fun g w (h : PlanAt w g 5 4) => Over_c g 5 4 w h)
  have L4 := Lib.hid (fun g w (h : PlanAt w g 5 4) => Left_c g 5 4 w h)
  have O0 := Lib.hid (fun g w (h : PlanAt w g 5 0) => Over_c g 5 0 w h)
  have A0 := Lib.hid (fun g w (h : PlanAt w g 5 0) => All_c g 5 0 w (by omega) h)
  have e1 : hasN 5 0 = true := by decide +kernel
  have e2 : withoutN 5 0 = 4 := by decide +kernel
  have e3 : hasN 4 0 = false := by decide +kernel
  have e4 : withoutN 4 0 = 4 := by decide +kernel
  have e5 : hasN 4 2 = true := by decide +kernel
  have e6 : withoutN 4 2 = 0 := by decide +kernel
  have e7 : intsN (list 5) = [0, 2] := by decide +kernel
  rw [e1, e2] at H1
  rw [e3, e4] at H2
  rw [e5, e6] at H3
  rw [e7] at A0
  clear e1 e2 e3 e4 e5 e6 e7
  generalize hg : w.heap.size = g at N
  go_enter Try.func30, Try.ntmps30
  go_wp2_with fail
  refine N.out.mono ?_
  rintro e w1 ⟨rfl, hw1⟩
  have hk1 : PlanAt w1 g 5 5 := by rw [← hw1, ← hg]; exact new_at _ _
  have HB1 : Hid (Below g w w1) := Lib.hid (by rw [← hw1, ← hg]; exact bl_all (Below.refl _ w) _)
  clear hw1 N
  go_wp2_with fail
  refine (H1.out _ _ hk1).mono ?_
  rintro e w2 ⟨rfl, hk2, ho2⟩
  have HB2 := Lib.hid (ho2.2 _ _ HB1.out (Nat.le_refl _))
  clear hk1 ho2 HB1
  go_wp2_with fail
  refine (H2.out _ _ hk2).mono ?_
  rintro e w3 ⟨rfl, hk3, ho3⟩
  have HB3 := Lib.hid (ho3.2 _ _ HB2.out (Nat.le_refl _))
  clear hk2 ho3 HB2
  go_wp2_with fail
  refine (O4.out _ _ hk3).mono ?_
  rintro e w' ⟨rfl, rfl⟩
  rw [show (((4 : Nat) : Int) == 0) = false from rfl]
  go_wp2_with fail
  refine (L4.out _ _ hk3).mono ?_
  rintro e w' ⟨rfl, rfl⟩
  rw [show ((4 : Nat) : Int) = 4 from rfl]
  go_wp2_with fail
  refine (H3.out _ _ hk3).mono ?_
  rintro e w4 ⟨rfl, hk4, ho4⟩
  have HB4 := Lib.hid (ho4.2 _ _ HB3.out (Nat.le_refl _))
  clear hk3 ho4 HB3
  go_wp2_with fail
  refine (O0.out _ _ hk4).mono ?_
  rintro e w' ⟨rfl, rfl⟩
  rw [show (((0 : Nat) : Int) == 0) = true from rfl]
  go_wp2_with fail
  refine (A0.out _ _ hk4).mono ?_
  rintro e w5 ⟨v, rfl, hr, hb⟩
  obtain ⟨A1, c1, rfl, hc1, hk⟩ := Kd.R_reads hr
  have HB5 := Lib.hid (bl_to HB4.out hb (by have := lt_at hk4; omega))
  clear hr hb hk
  go_wp2_with fail
  go_ret
  exact ⟨rfl, HB5.out⟩
end Go.Proofs.Yteclkapffhjddaa.PlanW
