/-
  LaterOrder: what waits, and may go, goes in the order in which it came: the call returns true.
-/
import Derived.Test.YtoobbolaoldacaaRows
import Derived.Test.YtoobbolaoldacaaOpen
import Derived.Test.YtoobbolaoldacaaLaterO
import Derived.Test.YtoobbolaoldacaaOpenW
import Derived.WalkKit
import Derived.ProofKit
import Derived.OpenShut
import Derived.ShutString
import Derived.ChangeOld
import Derived.Below
import Derived.SizedLaws
namespace Go.Proofs.Ytoobbolaoldacaa.laterOrder
open Go.ChangeShapes Go.WideShapes Go.ChangeAt Go.RowKit Go.Proofs.YtoobbolaoldacaaW.PrintWords Go.Proofs.Ytoobbolaoldacaa Go.Proofs.Ytoobbolaoldacaa.Later Go.Proofs.Ytoobbolaoldacaa.LaterW
open Go.ChangeMaps (open_string shut_string)
set_option linter.unusedVariables false
theorem own : ownKnob Try.prog.godebug = none := by kernel_rfl
theorem laidOut : laidOutB Try.prog = true := by kernel_rfl
def wf27 (s : S27) : Prop := ((Lit.int .i64 s.f0).wf = true) ∧ ((Lit.int .i64 s.f1).wf = true)
theorem opens27 : OpenW.Opens Try.prog 27 k27 wf27 := by
  intro H enc w spare held fuel cs x hx hwt
  exact OpenW.opens_struct (f := fun x : S27 => (x.f0, x.f1)) (fun p => ⟨p.1, p.2⟩) (fun _ => rfl) Try.underlying27 (by kernel_rfl) (OpenW.opensF_cons rfl (by kernel_rfl) (OpenW.opens_int Try.underlying3) (OpenW.opensF_one rfl (by kernel_rfl) (OpenW.opens_int Try.underlying3))) enc w spare held fuel cs x hx hwt
def wf140 (s : S140) : Prop := (wf27 s.f0) ∧ (True)
theorem opens140 : OpenW.Opens Try.prog 140 k140 wf140 := by
  intro H enc w spare held fuel cs x hx hwt
  exact OpenW.opens_struct (f := fun x : S140 => (x.f0, x.f1)) (fun p => ⟨p.1, p.2⟩) (fun _ => rfl) Try.underlying140 (by kernel_rfl) (OpenW.opensF_cons rfl (by kernel_rfl) opens27 (OpenW.opensF_one rfl (by kernel_rfl) (OpenW.opens_bool Try.underlying4))) enc w spare held fuel cs x hx hwt
def wf31 (s : S31) : Prop := (True) ∧ ((Lit.int .i64 s.f1).wf = true) ∧ (wf27 s.f2) ∧ ((s.f3.length ≤ reachBytes ∧ ∀ y ∈ s.f3, (Lit.int .u8 y).wf = true)) ∧ ((s.f4.length ≤ reachBytes ∧ ∀ y ∈ s.f4, wf140 y))
theorem opens31 : OpenW.Opens Try.prog 31 k31 wf31 := by
  intro H enc w spare held fuel cs x hx hwt
  exact OpenW.opens_struct (f := fun x : S31 => (x.f0, x.f1, x.f2, x.f3, x.f4)) (fun p => ⟨p.1, p.2.1, p.2.2.1, p.2.2.2.1, p.2.2.2.2⟩) (fun _ => rfl) Try.underlying31 (by kernel_rfl) (OpenW.opensF_cons rfl (by kernel_rfl) (OpenW.opens_bool Try.underlying4) (OpenW.opensF_cons rfl (by kernel_rfl) (OpenW.opens_int Try.underlying3) (OpenW.opensF_cons rfl (by kernel_rfl) opens27 (OpenW.opensF_cons rfl (by kernel_rfl) (OpenW.opens_slice Try.underlying28 (by kernel_rfl) (OpenW.opens_int Try.underlying5)) (OpenW.opensF_one rfl (by kernel_rfl) (OpenW.opens_slice Try.underlying29 (by kernel_rfl) opens140)))))) enc w spare held fuel cs x hx hwt
set_option maxRecDepth 100000 in
theorem lifted (os : Os) (started : os.Started) (H : Type) (enc : TypeId × Value → H) :
    ReturnsInHanded {} Try.checked os 3 .any (Rows.laterOrderSpec.pre6 enc Try.prog Try.f3 Rows.laterOrderRow.domain false) (Rows.laterOrderSpec.post enc Try.prog Try.f3 false true false false) := by
  refine returnsInHanded_of_change_sized (C := Try.checked) own started (by kernel_rfl) Try.func3
    (ChangeSpec.witness6 (enc := enc) (C := Try.checked) false ⟨#[], #[.slice none 0 0], []⟩ 8 (by kernel_rfl) (by kernel_rfl) (by kernel_rfl) (by kernel_rfl)) ?_
  intro W base args ds gs before hval0 hW hcnd hsz0 _
  have hval : ∀ (j : Nat) t v, Try.f3.params[j]? = some t → args[j]? = some v → Value.okWide Try.prog W .any base t v := hval0
  have hW' := hW
  obtain ⟨p, q, hA0, hV, rfl, hfz, hnd⟩ := hW
  have hA : DataW.TrodAll enc Try.prog W 0 (fun _ => true) true Try.f3.params.toList args.toList ds p := hA0
  rw [Try.params3] at hA hval
  obtain ⟨v0, vs0, d0, ds0, p0, q0, hargs, rfl, rfl, h0, r0⟩ := trodAll_cons hA
  obtain ⟨rfl, rfl, rfl⟩ := trodAll_nil r0
  obtain rfl : args = #[v0] := by cases args; simp_all
  obtain ⟨rfl, rfl⟩ := trodVars_none hV
  have k0 := h0
  have lt0 : ∀ x ∈ p0, x.block < W.heap.size := by obtain ⟨m, hm⟩ := k0; exact DataW.trod_lt m _ _ _ hm
  have hwt0 : ∀ n ∈ d0.weights Try.prog 22, n ≤ reachBytes := by
    intro n hn
    have h2 := List.all_eq_true.1 hsz0 n (OpenW.mem_each (i := 0) (t := 22) (d := d0) rfl rfl hn)
    exact of_decide_eq_true h2
  obtain ⟨A0, c0, l0, rfl, hc0, hr0, hw0⟩ := OpenW.arg_slice Try.underlying22 (OpenW.opens_slice Try.underlying22 (by kernel_rfl) opens31) (hval 0 22 v0 rfl rfl) h0 hwt0
  clear hA0 hval0
  have hB0 : ∀ a ∈ l0, a.f3.length ≤ 140737488355328 := fun a ha => Nat.le_trans (hw0.2 a ha).2.2.2.1.1 (by decide)
  refine (LaterW.order_walk A0 c0 l0 W hr0 hB0).mono fun e W' ⟨he, bel⟩ => ?_
  subst he
  exact ⟨_, rfl, _, _, _, [], _, [], hW', trodAll_mk1 (shut_bool Try.underlying4 _), (trodAll_cons_mk (Below.trod laidOut (by kernel_rfl) (of_decide_eq_true (by kernel_rfl)) k0 bel lt0) trodAll_mk0), rfl, bel.frame _, fun h => by cases h⟩
theorem over : Rows.laterOrderRow.holds Try.pinned (OpenSpec.ofChange Rows.laterOrderSpec) :=
  OpenClaim.holds_of_wide 3 Try.f3 rfl rfl rfl rfl rfl rfl rfl ⟨rfl, rfl, rfl, rfl, rfl⟩ rfl rfl rfl rfl rfl (by kernel_rfl) Try.func3 (by kernel_rfl)
    (of_decide_eq_true (by kernel_rfl)) (by unfold Func.isWrapper; first | (rw [if_pos (by decide +kernel)]; kernel_rfl) | (rw [if_neg (by decide +kernel)]; exact ⟨rfl, rfl⟩))
    (fun os started H enc _ => lifted os started H enc)
end Go.Proofs.Ytoobbolaoldacaa.laterOrder
namespace Go.Proofs.Ytoobbolaoldacaa
theorem laterOrder_holds : Rows.LaterOrderSaid := laterOrder.over
#print axioms laterOrder_holds
end Go.Proofs.Ytoobbolaoldacaa
