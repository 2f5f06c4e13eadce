/-
  WaitFirst: the first of all that wait may go on, where nothing flies or waits here, and no write that stands ahead overlaps one that may: the call returns true.
-/
import Derived.Test.YteclkapffhjddaaRows
import Derived.Test.YteclkapffhjddaaOpen
import Derived.Test.YteclkapffhjddaaWaitFirst
import Derived.WalkKit
import Derived.ProofKit
import Derived.OpenShut
import Derived.ShutString
import Derived.ChangeOld
import Derived.Below
namespace Go.Proofs.Yteclkapffhjddaa.waitFirst
open Go.ChangeShapes Go.WideShapes Go.ChangeAt Go.RowKit Go.Proofs.YteclkapffhjddaaW.PrintWords Go.Proofs.Yteclkapffhjddaa Go.Proofs.Yteclkapffhjddaa.Wait
open Go.ChangeMaps (open_string shut_string)
set_option linter.unusedVariables false
theorem own : ownKnob Try.prog.godebug = none := by kernel_rfl
theorem laidOut : laidOutB Try.prog = true := by kernel_rfl
def wf55 (s : S55) : Prop := ((Lit.int .i64 s.f0).wf = true) ∧ ((Lit.int .i64 s.f1).wf = true)
theorem opens55 : Opening.Opens Try.prog 55 k55 wf55 := by
  intro H enc w spare held fuel cs x hx
  exact Opening.opens_struct (f := fun x : S55 => (x.f0, x.f1)) (fun p => ⟨p.1, p.2⟩) (fun _ => rfl) Try.underlying55 (by kernel_rfl) (Opening.opensF_cons rfl (by kernel_rfl) (Opening.opens_int Try.underlying3) (Opening.opensF_one rfl (by kernel_rfl) (Opening.opens_int Try.underlying3))) enc w spare held fuel cs x hx
def wf76 (s : S76) : Prop := ((Lit.int .i64 s.f0).wf = true) ∧ ((Lit.int .i64 s.f1).wf = true) ∧ (wf55 s.f2)
theorem opens76 : Opening.Opens Try.prog 76 k76 wf76 := by
  intro H enc w spare held fuel cs x hx
  exact Opening.opens_struct (f := fun x : S76 => (x.f0, x.f1, x.f2)) (fun p => ⟨p.1, p.2.1, p.2.2⟩) (fun _ => rfl) Try.underlying76 (by kernel_rfl) (Opening.opensF_cons rfl (by kernel_rfl) (Opening.opens_int Try.underlying3) (Opening.opensF_cons rfl (by kernel_rfl) (Opening.opens_int Try.underlying3) (Opening.opensF_one rfl (by kernel_rfl) opens55))) enc w spare held fuel cs x hx
set_option maxRecDepth 100000 in
theorem lifted (os : Os) (started : os.Started) (H : Type) (enc : TypeId × Value → H) :
    ReturnsInHanded {} Try.checked os 10 .any (Rows.waitFirstSpec.pre6 enc Try.prog Try.f10 Rows.waitFirstRow.domain false) (Rows.waitFirstSpec.post enc Try.prog Try.f10 false true false false) := by
  refine returnsInHanded_of_change (C := Try.checked) own started (by kernel_rfl) Try.func10
    (ChangeSpec.witness6 (enc := enc) (C := Try.checked) false ⟨#[], #[.slice none 0 0], []⟩ 8 (by kernel_rfl) (by kernel_rfl) (by kernel_rfl) (by kernel_rfl)) ?_
  intro W base args ds gs before hval0 hW hcnd _
  have hval : ∀ (j : Nat) t v, Try.f10.params[j]? = some t → args[j]? = some v → Value.okWide Try.prog W .any base t v := hval0
  have hW' := hW
  obtain ⟨p, q, hA0, hV, rfl, hfz, hnd⟩ := hW
  have hA : DataW.TrodAll enc Try.prog W 0 (fun _ => true) true Try.f10.params.toList args.toList ds p := hA0
  rw [Try.params10] at hA hval
  obtain ⟨v0, vs0, d0, ds0, p0, q0, hargs, rfl, rfl, h0, r0⟩ := trodAll_cons hA
  obtain ⟨rfl, rfl, rfl⟩ := trodAll_nil r0
  obtain rfl : args = #[v0] := by cases args; simp_all
  obtain ⟨rfl, rfl⟩ := trodVars_none hV
  have k0 := h0
  have lt0 : ∀ x ∈ p0, x.block < W.heap.size := by obtain ⟨m, hm⟩ := k0; exact DataW.trod_lt m _ _ _ hm
  obtain ⟨A0, c0, l0, rfl, hc0, hr0, hw0⟩ := Opening.arg_slice Try.underlying50 (Opening.opens_slice Try.underlying50 (by kernel_rfl) opens76) (hval 0 50 v0 rfl rfl) h0
  clear hA0 hval0
  refine (twainlaw16_WaitFirst.calls 2600 A0 c0 l0 true W hr0 hc0 (WaitFirst.first_p l0)).mono fun e W' ⟨he, bel⟩ => ?_
  subst he
  exact ⟨_, rfl, _, _, _, [], _, [], hW', trodAll_mk1 (shut_bool Try.underlying4 _), (trodAll_cons_mk (Below.trod laidOut (by kernel_rfl) (of_decide_eq_true (by kernel_rfl)) k0 bel lt0) trodAll_mk0), rfl, bel.frame _, fun h => by cases h⟩
theorem over : Rows.waitFirstRow.holds Try.pinned (OpenSpec.ofChange Rows.waitFirstSpec) :=
  OpenClaim.holds_of_wide 10 Try.f10 rfl rfl rfl rfl rfl rfl rfl ⟨rfl, rfl, rfl, rfl, rfl⟩ rfl rfl rfl rfl rfl (by kernel_rfl) Try.func10 (by kernel_rfl)
    (of_decide_eq_true (by kernel_rfl)) (by unfold Func.isWrapper; first | (rw [if_pos (by decide +kernel)]; kernel_rfl) | (rw [if_neg (by decide +kernel)]; exact ⟨rfl, rfl⟩))
    (fun os started H enc _ => lifted os started H enc)
end Go.Proofs.Yteclkapffhjddaa.waitFirst
namespace Go.Proofs.Yteclkapffhjddaa
theorem waitFirst_holds : Rows.WaitFirstSaid := waitFirst.over
#print axioms waitFirst_holds
end Go.Proofs.Yteclkapffhjddaa
