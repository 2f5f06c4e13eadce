/-
  RoleTells: who is the arbiter, who gives, and all extents of both sets, is the document's: the call returns true.
-/
import Derived.Test.YtafgaekpmnheoaaRows
import Derived.Test.YtafgaekpmnheoaaOpen
import Derived.Test.YtafgaekpmnheoaaRolex2
import Derived.Test.YtafgaekpmnheoaaRolePure
import Derived.WalkKit
import Derived.ProofKit
import Derived.OpenShut
import Derived.ShutString
import Derived.ChangeOld
import Derived.Below
namespace Go.Proofs.Ytafgaekpmnheoaa.roleTells
open Go.ChangeShapes Go.WideShapes Go.ChangeAt Go.RowKit Go.Proofs.YtafgaekpmnheoaaW.PrintWords Go.Proofs.Ytafgaekpmnheoaa Go.Proofs.Ytafgaekpmnheoaa.Role
open Go.ChangeMaps (open_string shut_string)
set_option linter.unusedVariables false
theorem own : ownKnob Try.prog.godebug = none := by kernel_rfl
theorem laidOut : laidOutB Try.prog = true := by kernel_rfl
structure S52 where
  f0 : Int
  f1 : Bool
  f2 : Bool
  f3 : Int
  f4 : Int
  f5 : Int
def k52 : Kd S52 := Kd.iso (Kd.pair (Kd.int .i64) (Kd.pair Kd.bool (Kd.pair Kd.bool (Kd.pair (Kd.int .u64) (Kd.pair (Kd.int .u64) (Kd.int .i64)))))) (fun x : S52 => (x.f0, x.f1, x.f2, x.f3, x.f4, x.f5))
theorem k52_open {w : World} {x : S52} {cs : List Value} (h : k52.K w x cs) : cs = [.int .i64 x.f0, .bool x.f1, .bool x.f2, .int .u64 x.f3, .int .u64 x.f4, .int .i64 x.f5] := by
  obtain ⟨_, _, rfl, rfl, ⟨_, _, rfl, rfl, ⟨_, _, rfl, rfl, ⟨_, _, rfl, rfl, ⟨_, _, rfl, rfl, rfl⟩⟩⟩⟩⟩ := h
  exact rfl
def wf52 (s : S52) : Prop := ((Lit.int .i64 s.f0).wf = true) ∧ (True) ∧ (True) ∧ ((Lit.int .u64 s.f3).wf = true) ∧ ((Lit.int .u64 s.f4).wf = true) ∧ ((Lit.int .i64 s.f5).wf = true)
theorem opens52 : Opening.Opens Try.prog 52 k52 wf52 := by
  intro H enc w spare held fuel cs x hx
  exact Opening.opens_struct (f := fun x : S52 => (x.f0, x.f1, x.f2, x.f3, x.f4, x.f5)) (fun p => ⟨p.1, p.2.1, p.2.2.1, p.2.2.2.1, p.2.2.2.2.1, p.2.2.2.2.2⟩) (fun _ => rfl) Try.underlying52 (by kernel_rfl) (Opening.opensF_cons rfl (by kernel_rfl) (Opening.opens_int Try.underlying3) (Opening.opensF_cons rfl (by kernel_rfl) (Opening.opens_bool Try.underlying4) (Opening.opensF_cons rfl (by kernel_rfl) (Opening.opens_bool Try.underlying4) (Opening.opensF_cons rfl (by kernel_rfl) (Opening.opens_int Try.underlying50) (Opening.opensF_cons rfl (by kernel_rfl) (Opening.opens_int Try.underlying50) (Opening.opensF_one rfl (by kernel_rfl) (Opening.opens_int Try.underlying3))))))) enc w spare held fuel cs x hx
set_option maxRecDepth 100000 in
theorem lifted (os : Os) (started : os.Started) (H : Type) (enc : TypeId × Value → H) :
    ReturnsInHanded {} Try.checked os 9 .any (Rows.roleTellsSpec.pre6 enc Try.prog Try.f9 Rows.roleTellsRow.domain false) (Rows.roleTellsSpec.post enc Try.prog Try.f9 false true false false) := by
  refine returnsInHanded_of_change (C := Try.checked) own started (by kernel_rfl) Try.func9
    (ChangeSpec.witness6 (enc := enc) (C := Try.checked) false ⟨#[], #[.agg #[.int .i64 0, .bool false, .bool false, .int .u64 0, .int .u64 0, .int .i64 0]], []⟩ 8 (by kernel_rfl) (by kernel_rfl) (by kernel_rfl) (by kernel_rfl)) ?_
  intro W base args ds gs before hval0 hW hcnd _
  have hval : ∀ (j : Nat) t v, Try.f9.params[j]? = some t → args[j]? = some v → Value.okWide Try.prog W .any base t v := hval0
  have hW' := hW
  obtain ⟨p, q, hA0, hV, rfl, hfz, hnd⟩ := hW
  have hA : DataW.TrodAll enc Try.prog W 0 (fun _ => true) true Try.f9.params.toList args.toList ds p := hA0
  rw [Try.params9] at hA hval
  obtain ⟨v0, vs0, d0, ds0, p0, q0, hargs, rfl, rfl, h0, r0⟩ := trodAll_cons hA
  obtain ⟨rfl, rfl, rfl⟩ := trodAll_nil r0
  obtain rfl : args = #[v0] := by cases args; simp_all
  obtain ⟨rfl, rfl⟩ := trodVars_none hV
  have k0 := h0
  have lt0 : ∀ x ∈ p0, x.block < W.heap.size := by obtain ⟨m, hm⟩ := k0; exact DataW.trod_lt m _ _ _ hm
  obtain ⟨s0, cs0, rfl, hk0, hw0⟩ := Opening.arg_struct Try.underlying52 opens52 (hval 0 52 v0 rfl rfl) h0
  obtain rfl := k52_open hk0
  clear hA0 hval0
  obtain ⟨f0, f1, f2, f3, f4, f5⟩ := s0
  obtain ⟨g0, g1, g2, g3, g4, g5⟩ := hw0
  refine (twainlaw26_RoleTells.calls 200 f0 f1 f2 f3 f4 f5 true W (RolePure.RoleTells f0 f1 f2 f3 f4 f5 g3 g4 g5)).mono fun e W' ⟨he, bel⟩ => ?_
  subst he
  exact ⟨_, rfl, _, _, _, [], _, [], hW', trodAll_mk1 (shut_bool Try.underlying4 _), (trodAll_cons_mk (Below.trod laidOut (by kernel_rfl) (of_decide_eq_true (by kernel_rfl)) k0 bel lt0) trodAll_mk0), rfl, bel.frame _, fun h => by cases h⟩
theorem over : Rows.roleTellsRow.holds Try.pinned (OpenSpec.ofChange Rows.roleTellsSpec) :=
  OpenClaim.holds_of_wide 9 Try.f9 rfl rfl rfl rfl rfl rfl rfl ⟨rfl, rfl, rfl, rfl, rfl⟩ rfl rfl rfl rfl rfl (by kernel_rfl) Try.func9 (by kernel_rfl)
    (of_decide_eq_true (by kernel_rfl)) (by unfold Func.isWrapper; first | (rw [if_pos (by decide +kernel)]; kernel_rfl) | (rw [if_neg (by decide +kernel)]; exact ⟨rfl, rfl⟩))
    (fun os started H enc _ => lifted os started H enc)
end Go.Proofs.Ytafgaekpmnheoaa.roleTells
namespace Go.Proofs.Ytafgaekpmnheoaa
theorem roleTells_holds : Rows.RoleTellsSaid := roleTells.over
#print axioms roleTells_holds
end Go.Proofs.Ytafgaekpmnheoaa
