/-
  HotActs: behind any calls the set, its order, and who fits, are the document's: the call returns true.
-/
import Derived.Test.YtoobbolaoldacaaRows
import Derived.Test.YtoobbolaoldacaaOpen
import Derived.Test.YtoobbolaoldacaaHotA
import Derived.WalkKit
import Derived.ProofKit
import Derived.OpenShut
import Derived.ShutString
import Derived.ChangeOld
import Derived.Below
namespace Go.Proofs.Ytoobbolaoldacaa.hotActs
open Go.ChangeShapes Go.WideShapes Go.ChangeAt Go.RowKit Go.Proofs.YtoobbolaoldacaaW.PrintWords Go.Proofs.Ytoobbolaoldacaa Go.Proofs.Ytoobbolaoldacaa.HotW
open Go.ChangeMaps (open_string shut_string)
set_option linter.unusedVariables false
theorem own : ownKnob Try.prog.godebug = none := by kernel_rfl
theorem laidOut : laidOutB Try.prog = true := by kernel_rfl
def wf81 (s : S81) : Prop := ((Lit.int .i64 s.f0).wf = true) ∧ ((Lit.int .u64 s.f1).wf = true) ∧ ((Lit.int .u64 s.f2).wf = true)
theorem opens81 : Opening.Opens Try.prog 81 k81 wf81 := by
  intro H enc w spare held fuel cs x hx
  exact Opening.opens_struct (f := fun x : S81 => (x.f0, x.f1, x.f2)) (fun p => ⟨p.1, p.2.1, p.2.2⟩) (fun _ => rfl) Try.underlying81 (by kernel_rfl) (Opening.opensF_cons rfl (by kernel_rfl) (Opening.opens_int Try.underlying3) (Opening.opensF_cons rfl (by kernel_rfl) (Opening.opens_int Try.underlying42) (Opening.opensF_one rfl (by kernel_rfl) (Opening.opens_int Try.underlying42)))) enc w spare held fuel cs x hx
set_option maxRecDepth 100000 in
theorem lifted (os : Os) (started : os.Started) (H : Type) (enc : TypeId × Value → H) :
    ReturnsInHanded {} Try.checked os 7 .any (Rows.hotActsSpec.pre6 enc Try.prog Try.f7 Rows.hotActsRow.domain false) (Rows.hotActsSpec.post enc Try.prog Try.f7 false true false false) := by
  refine returnsInHanded_of_change (C := Try.checked) own started (by kernel_rfl) Try.func7
    (ChangeSpec.witness6 (enc := enc) (C := Try.checked) false ⟨#[], #[.int .i64 0, .slice none 0 0], []⟩ 8 (by kernel_rfl) (by kernel_rfl) (by kernel_rfl) (by kernel_rfl)) ?_
  intro W base args ds gs before hval0 hW hcnd _
  have hval : ∀ (j : Nat) t v, Try.f7.params[j]? = some t → args[j]? = some v → Value.okWide Try.prog W .any base t v := hval0
  have hW' := hW
  obtain ⟨p, q, hA0, hV, rfl, hfz, hnd⟩ := hW
  have hA : DataW.TrodAll enc Try.prog W 0 (fun _ => true) true Try.f7.params.toList args.toList ds p := hA0
  rw [Try.params7] at hA hval
  obtain ⟨v0, vs0, d0, ds0, p0, q0, hargs, rfl, rfl, h0, r0⟩ := trodAll_cons hA
  obtain ⟨v1, vs1, d1, ds1, p1, q1, rfl, rfl, rfl, h1, r1⟩ := trodAll_cons r0
  obtain ⟨rfl, rfl, rfl⟩ := trodAll_nil r1
  obtain rfl : args = #[v0, v1] := by cases args; simp_all
  obtain ⟨rfl, rfl⟩ := trodVars_none hV
  obtain ⟨a0, rfl, rfl, rfl, w0⟩ := open_int Try.underlying3 (hval 0 3 v0 rfl rfl) h0
  have k1 := h1
  have lt1 : ∀ x ∈ p1, x.block < W.heap.size := by obtain ⟨m, hm⟩ := k1; exact DataW.trod_lt m _ _ _ hm
  obtain ⟨A1, c1, l1, rfl, hc1, hr1, hw1⟩ := Opening.arg_slice Try.underlying76 (Opening.opens_slice Try.underlying76 (by kernel_rfl) opens81) (hval 1 76 v1 rfl rfl) h1
  clear hA0 hval0
  refine (HotW.acts_walk a0 A1 c1 l1 (fun y hy => ⟨(hw1.2 y hy).2.1, (hw1.2 y hy).2.2⟩) W hr1).mono fun e W' ⟨he, bel⟩ => ?_
  subst he
  exact ⟨_, rfl, _, _, _, [], _, [], hW', trodAll_mk1 (shut_bool Try.underlying4 _), (trodAll_cons_mk (shut_int Try.underlying3 w0) (trodAll_cons_mk (Below.trod laidOut (by kernel_rfl) (of_decide_eq_true (by kernel_rfl)) k1 bel lt1) trodAll_mk0)), rfl, bel.frame _, fun h => by cases h⟩
theorem over : Rows.hotActsRow.holds Try.pinned (OpenSpec.ofChange Rows.hotActsSpec) :=
  OpenClaim.holds_of_wide 7 Try.f7 rfl rfl rfl rfl rfl rfl rfl ⟨rfl, rfl, rfl, rfl, rfl⟩ rfl rfl rfl rfl rfl (by kernel_rfl) Try.func7 (by kernel_rfl)
    (of_decide_eq_true (by kernel_rfl)) (by unfold Func.isWrapper; first | (rw [if_pos (by decide +kernel)]; kernel_rfl) | (rw [if_neg (by decide +kernel)]; exact ⟨rfl, rfl⟩))
    (fun os started H enc _ => lifted os started H enc)
end Go.Proofs.Ytoobbolaoldacaa.hotActs
namespace Go.Proofs.Ytoobbolaoldacaa
theorem hotActs_holds : Rows.HotActsSaid := hotActs.over
#print axioms hotActs_holds
end Go.Proofs.Ytoobbolaoldacaa
