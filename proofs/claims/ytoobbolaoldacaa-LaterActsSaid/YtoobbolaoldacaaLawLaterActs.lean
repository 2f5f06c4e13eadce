/-
  LaterActs: behind any calls what waits, and what may go, is the document's: the call returns true.
-/
import Derived.Test.YtoobbolaoldacaaRows
import Derived.Test.YtoobbolaoldacaaOpen
import Derived.Test.YtoobbolaoldacaaLaterA
import Derived.WalkKit
import Derived.ProofKit
import Derived.OpenShut
import Derived.ShutString
import Derived.ChangeOld
import Derived.Below
namespace Go.Proofs.Ytoobbolaoldacaa.laterActs
open Go.ChangeShapes Go.WideShapes Go.ChangeAt Go.RowKit Go.Proofs.YtoobbolaoldacaaW.PrintWords Go.Proofs.Ytoobbolaoldacaa Go.Proofs.Ytoobbolaoldacaa.Later Go.Proofs.Ytoobbolaoldacaa.LaterW
open Go.ChangeMaps (open_string shut_string)
set_option linter.unusedVariables false
theorem own : ownKnob Try.prog.godebug = none := by kernel_rfl
theorem laidOut : laidOutB Try.prog = true := by kernel_rfl
def wf27 (s : S27) : Prop := ((Lit.int .i64 s.f0).wf = true) ∧ ((Lit.int .i64 s.f1).wf = true)
theorem opens27 : Opening.Opens Try.prog 27 k27 wf27 := by
  intro H enc w spare held fuel cs x hx
  exact Opening.opens_struct (f := fun x : S27 => (x.f0, x.f1)) (fun p => ⟨p.1, p.2⟩) (fun _ => rfl) Try.underlying27 (by kernel_rfl) (Opening.opensF_cons rfl (by kernel_rfl) (Opening.opens_int Try.underlying3) (Opening.opensF_one rfl (by kernel_rfl) (Opening.opens_int Try.underlying3))) enc w spare held fuel cs x hx
def wf140 (s : S140) : Prop := (wf27 s.f0) ∧ (True)
theorem opens140 : Opening.Opens Try.prog 140 k140 wf140 := by
  intro H enc w spare held fuel cs x hx
  exact Opening.opens_struct (f := fun x : S140 => (x.f0, x.f1)) (fun p => ⟨p.1, p.2⟩) (fun _ => rfl) Try.underlying140 (by kernel_rfl) (Opening.opensF_cons rfl (by kernel_rfl) opens27 (Opening.opensF_one rfl (by kernel_rfl) (Opening.opens_bool Try.underlying4))) enc w spare held fuel cs x hx
def wf31 (s : S31) : Prop := (True) ∧ ((Lit.int .i64 s.f1).wf = true) ∧ (wf27 s.f2) ∧ ((s.f3.length ≤ maxLen ∧ ∀ y ∈ s.f3, (Lit.int .u8 y).wf = true)) ∧ ((s.f4.length ≤ maxLen ∧ ∀ y ∈ s.f4, wf140 y))
theorem opens31 : Opening.Opens Try.prog 31 k31 wf31 := by
  intro H enc w spare held fuel cs x hx
  exact Opening.opens_struct (f := fun x : S31 => (x.f0, x.f1, x.f2, x.f3, x.f4)) (fun p => ⟨p.1, p.2.1, p.2.2.1, p.2.2.2.1, p.2.2.2.2⟩) (fun _ => rfl) Try.underlying31 (by kernel_rfl) (Opening.opensF_cons rfl (by kernel_rfl) (Opening.opens_bool Try.underlying4) (Opening.opensF_cons rfl (by kernel_rfl) (Opening.opens_int Try.underlying3) (Opening.opensF_cons rfl (by kernel_rfl) opens27 (Opening.opensF_cons rfl (by kernel_rfl) (Opening.opens_slice Try.underlying28 (by kernel_rfl) (Opening.opens_int Try.underlying5)) (Opening.opensF_one rfl (by kernel_rfl) (Opening.opens_slice Try.underlying29 (by kernel_rfl) opens140)))))) enc w spare held fuel cs x hx
set_option maxRecDepth 100000 in
theorem lifted (os : Os) (started : os.Started) (H : Type) (enc : TypeId × Value → H) :
    ReturnsInHanded {} Try.checked os 5 .any (Rows.laterActsSpec.pre6 enc Try.prog Try.f5 Rows.laterActsRow.domain false) (Rows.laterActsSpec.post enc Try.prog Try.f5 false true false false) := by
  refine returnsInHanded_of_change (C := Try.checked) own started (by kernel_rfl) Try.func5
    (ChangeSpec.witness6 (enc := enc) (C := Try.checked) false ⟨#[], #[.slice none 0 0, .agg #[.int .i64 0, .int .i64 0]], []⟩ 8 (by kernel_rfl) (by kernel_rfl) (by kernel_rfl) (by kernel_rfl)) ?_
  intro W base args ds gs before hval0 hW hcnd _
  have hval : ∀ (j : Nat) t v, Try.f5.params[j]? = some t → args[j]? = some v → Value.okWide Try.prog W .any base t v := hval0
  have hW' := hW
  obtain ⟨p, q, hA0, hV, rfl, hfz, hnd⟩ := hW
  have hA : DataW.TrodAll enc Try.prog W 0 (fun _ => true) true Try.f5.params.toList args.toList ds p := hA0
  rw [Try.params5] at hA hval
  obtain ⟨v0, vs0, d0, ds0, p0, q0, hargs, rfl, rfl, h0, r0⟩ := trodAll_cons hA
  obtain ⟨v1, vs1, d1, ds1, p1, q1, rfl, rfl, rfl, h1, r1⟩ := trodAll_cons r0
  obtain ⟨rfl, rfl, rfl⟩ := trodAll_nil r1
  obtain rfl : args = #[v0, v1] := by cases args; simp_all
  obtain ⟨rfl, rfl⟩ := trodVars_none hV
  have k0 := h0
  have lt0 : ∀ x ∈ p0, x.block < W.heap.size := by obtain ⟨m, hm⟩ := k0; exact DataW.trod_lt m _ _ _ hm
  obtain ⟨A0, c0, l0, rfl, hc0, hr0, hw0⟩ := Opening.arg_slice Try.underlying22 (Opening.opens_slice Try.underlying22 (by kernel_rfl) opens31) (hval 0 22 v0 rfl rfl) h0
  have k1 := h1
  have lt1 : ∀ x ∈ p1, x.block < W.heap.size := by obtain ⟨m, hm⟩ := k1; exact DataW.trod_lt m _ _ _ hm
  obtain ⟨s1, cs1, rfl, hk1, hw1⟩ := Opening.arg_struct Try.underlying27 opens27 (hval 1 27 v1 rfl rfl) h1
  obtain rfl := k27_open hk1
  clear hA0 hval0
  refine (LaterW.acts_walk A0 c0 l0 s1.f0 s1.f1 W hr0).mono fun e W' ⟨he, bel⟩ => ?_
  subst he
  exact ⟨_, rfl, _, _, _, [], _, [], hW', trodAll_mk1 (shut_bool Try.underlying4 _), (trodAll_cons_mk (Below.trod laidOut (by kernel_rfl) (of_decide_eq_true (by kernel_rfl)) k0 bel lt0) (trodAll_cons_mk (Below.trod laidOut (by kernel_rfl) (of_decide_eq_true (by kernel_rfl)) k1 bel lt1) trodAll_mk0)), rfl, bel.frame _, fun h => by cases h⟩
theorem over : Rows.laterActsRow.holds Try.pinned (OpenSpec.ofChange Rows.laterActsSpec) :=
  OpenClaim.holds_of_wide 5 Try.f5 rfl rfl rfl rfl rfl rfl rfl ⟨rfl, rfl, rfl, rfl, rfl⟩ rfl rfl rfl rfl rfl (by kernel_rfl) Try.func5 (by kernel_rfl)
    (of_decide_eq_true (by kernel_rfl)) (by unfold Func.isWrapper; first | (rw [if_pos (by decide +kernel)]; kernel_rfl) | (rw [if_neg (by decide +kernel)]; exact ⟨rfl, rfl⟩))
    (fun os started H enc _ => lifted os started H enc)
end Go.Proofs.Ytoobbolaoldacaa.laterActs
namespace Go.Proofs.Ytoobbolaoldacaa
theorem laterActs_holds : Rows.LaterActsSaid := laterActs.over
#print axioms laterActs_holds
end Go.Proofs.Ytoobbolaoldacaa
