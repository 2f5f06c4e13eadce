/-
  RoleOne: of two nodes that meet just one gives: the call returns true.
-/
import Derived.Test.YtafgaekpmnheoaaRows
import Derived.Test.YtafgaekpmnheoaaOpen
import Derived.Test.YtafgaekpmnheoaaRoleOne
import Derived.WalkKit
import Derived.ProofKit
import Derived.OpenShut
import Derived.ShutString
import Derived.ChangeOld
import Derived.Below
namespace Go.Proofs.Ytafgaekpmnheoaa.roleOne
open Go.ChangeShapes Go.WideShapes Go.ChangeAt Go.RowKit Go.Proofs.YtafgaekpmnheoaaW.PrintWords Go.Proofs.Ytafgaekpmnheoaa Go.Proofs.Ytafgaekpmnheoaa.Role
open Go.ChangeMaps (open_string shut_string)
set_option linter.unusedVariables false
theorem own : ownKnob Try.prog.godebug = none := by kernel_rfl
theorem laidOut : laidOutB Try.prog = true := by kernel_rfl
structure S57 where
  f0 : Bool
  f1 : Bool
  f2 : Int
  f3 : Int
def k57 : Kd S57 := Kd.iso (Kd.pair Kd.bool (Kd.pair Kd.bool (Kd.pair (Kd.int .u64) (Kd.int .u64)))) (fun x : S57 => (x.f0, x.f1, x.f2, x.f3))
theorem k57_open {w : World} {x : S57} {cs : List Value} (h : k57.K w x cs) : cs = [.bool x.f0, .bool x.f1, .int .u64 x.f2, .int .u64 x.f3] := by
  obtain ⟨_, _, rfl, rfl, ⟨_, _, rfl, rfl, ⟨_, _, rfl, rfl, rfl⟩⟩⟩ := h
  exact rfl
def wf57 (s : S57) : Prop := (True) ∧ (True) ∧ ((Lit.int .u64 s.f2).wf = true) ∧ ((Lit.int .u64 s.f3).wf = true)
theorem opens57 : Opening.Opens Try.prog 57 k57 wf57 := by
  intro H enc w spare held fuel cs x hx
  exact Opening.opens_struct (f := fun x : S57 => (x.f0, x.f1, x.f2, x.f3)) (fun p => ⟨p.1, p.2.1, p.2.2.1, p.2.2.2⟩) (fun _ => rfl) Try.underlying57 (by kernel_rfl) (Opening.opensF_cons rfl (by kernel_rfl) (Opening.opens_bool Try.underlying4) (Opening.opensF_cons rfl (by kernel_rfl) (Opening.opens_bool Try.underlying4) (Opening.opensF_cons rfl (by kernel_rfl) (Opening.opens_int Try.underlying50) (Opening.opensF_one rfl (by kernel_rfl) (Opening.opens_int Try.underlying50))))) enc w spare held fuel cs x hx
set_option maxRecDepth 100000 in
theorem lifted (os : Os) (started : os.Started) (H : Type) (enc : TypeId × Value → H) :
    ReturnsInHanded {} Try.checked os 10 .any (Rows.roleOneSpec.pre6 enc Try.prog Try.f10 Rows.roleOneRow.domain false) (Rows.roleOneSpec.post enc Try.prog Try.f10 false true false false) := by
  refine returnsInHanded_of_change (C := Try.checked) own started (by kernel_rfl) Try.func10
    (ChangeSpec.witness6 (enc := enc) (C := Try.checked) false ⟨#[], #[.agg #[.bool false, .bool false, .int .u64 0, .int .u64 0]], []⟩ 8 (by kernel_rfl) (by kernel_rfl) (by kernel_rfl) (by kernel_rfl)) ?_
  intro W base args ds gs before hval0 hW hcnd _
  have hval : ∀ (j : Nat) t v, Try.f10.params[j]? = some t → args[j]? = some v → Value.okWide Try.prog W .any base t v := hval0
  have hW' := hW
  obtain ⟨p, q, hA0, hV, rfl, hfz, hnd⟩ := hW
  have hA : DataW.TrodAll enc Try.prog W 0 (fun _ => true) true Try.f10.params.toList args.toList ds p := hA0
  rw [Try.params10] at hA hval
  obtain ⟨v0, vs0, d0, ds0, p0, q0, hargs, rfl, rfl, h0, r0⟩ := trodAll_cons hA
  obtain ⟨rfl, rfl, rfl⟩ := trodAll_nil r0
  obtain rfl : args = #[v0] := by cases args; simp_all
  obtain ⟨rfl, rfl⟩ := trodVars_none hV
  have k0 := h0
  have lt0 : ∀ x ∈ p0, x.block < W.heap.size := by obtain ⟨m, hm⟩ := k0; exact DataW.trod_lt m _ _ _ hm
  obtain ⟨s0, cs0, rfl, hk0, hw0⟩ := Opening.arg_struct Try.underlying57 opens57 (hval 0 57 v0 rfl rfl) h0
  obtain rfl := k57_open hk0
  clear hA0 hval0
  obtain ⟨f0, f1, f2, f3⟩ := s0
  obtain ⟨g0, g1, g2, g3⟩ := hw0
  refine (RoleOne.holds f0 f1 f2 f3 g2 g3 W).mono fun e W' ⟨he, bel⟩ => ?_
  subst he
  exact ⟨_, rfl, _, _, _, [], _, [], hW', trodAll_mk1 (shut_bool Try.underlying4 _), (trodAll_cons_mk (Below.trod laidOut (by kernel_rfl) (of_decide_eq_true (by kernel_rfl)) k0 bel lt0) trodAll_mk0), rfl, bel.frame _, fun h => by cases h⟩
theorem over : Rows.roleOneRow.holds Try.pinned (OpenSpec.ofChange Rows.roleOneSpec) :=
  OpenClaim.holds_of_wide 10 Try.f10 rfl rfl rfl rfl rfl rfl rfl ⟨rfl, rfl, rfl, rfl, rfl⟩ rfl rfl rfl rfl rfl (by kernel_rfl) Try.func10 (by kernel_rfl)
    (of_decide_eq_true (by kernel_rfl)) (by unfold Func.isWrapper; first | (rw [if_pos (by decide +kernel)]; kernel_rfl) | (rw [if_neg (by decide +kernel)]; exact ⟨rfl, rfl⟩))
    (fun os started H enc _ => lifted os started H enc)
end Go.Proofs.Ytafgaekpmnheoaa.roleOne
namespace Go.Proofs.Ytafgaekpmnheoaa
theorem roleOne_holds : Rows.RoleOneSaid := roleOne.over
#print axioms roleOne_holds
end Go.Proofs.Ytafgaekpmnheoaa
