/-
  HotNone: of a set that no call made nothing is hot: the call returns true.
-/
import Derived.Test.YtoobbolaoldacaaRows
import Derived.Test.YtoobbolaoldacaaOpen
import Derived.Test.YtoobbolaoldacaaHotN
import Derived.WalkKit
import Derived.ProofKit
import Derived.OpenShut
import Derived.ShutString
import Derived.ChangeOld
import Derived.Below
namespace Go.Proofs.Ytoobbolaoldacaa.hotNone
open Go.ChangeShapes Go.WideShapes Go.ChangeAt Go.RowKit Go.Proofs.YtoobbolaoldacaaW.PrintWords Go.Proofs.Ytoobbolaoldacaa 
open Go.ChangeMaps (open_string shut_string)
set_option linter.unusedVariables false
theorem own : ownKnob Try.prog.godebug = none := by kernel_rfl
theorem laidOut : laidOutB Try.prog = true := by kernel_rfl
structure S81 where
  f0 : Int
  f1 : Int
  f2 : Int
def k81 : Kd S81 := Kd.iso (Kd.pair (Kd.int .i64) (Kd.pair (Kd.int .u64) (Kd.int .u64))) (fun x : S81 => (x.f0, x.f1, x.f2))
theorem k81_open {w : World} {x : S81} {cs : List Value} (h : k81.K w x cs) : cs = [.int .i64 x.f0, .int .u64 x.f1, .int .u64 x.f2] := by
  obtain ⟨_, _, rfl, rfl, ⟨_, _, rfl, rfl, rfl⟩⟩ := h
  exact rfl
def wf81 (s : S81) : Prop := ((Lit.int .i64 s.f0).wf = true) ∧ ((Lit.int .u64 s.f1).wf = true) ∧ ((Lit.int .u64 s.f2).wf = true)
theorem opens81 : Opening.Opens Try.prog 81 k81 wf81 := by
  intro H enc w spare held fuel cs x hx
  exact Opening.opens_struct (f := fun x : S81 => (x.f0, x.f1, x.f2)) (fun p => ⟨p.1, p.2.1, p.2.2⟩) (fun _ => rfl) Try.underlying81 (by kernel_rfl) (Opening.opensF_cons rfl (by kernel_rfl) (Opening.opens_int Try.underlying3) (Opening.opensF_cons rfl (by kernel_rfl) (Opening.opens_int Try.underlying42) (Opening.opensF_one rfl (by kernel_rfl) (Opening.opens_int Try.underlying42)))) enc w spare held fuel cs x hx
set_option maxRecDepth 100000 in
theorem lifted (os : Os) (started : os.Started) (H : Type) (enc : TypeId × Value → H) :
    ReturnsInHanded {} Try.checked os 8 .any (Rows.hotNoneSpec.pre6 enc Try.prog Try.f8 Rows.hotNoneRow.domain false) (Rows.hotNoneSpec.post enc Try.prog Try.f8 false true false false) := by
  refine returnsInHanded_of_change (C := Try.checked) own started (by kernel_rfl) Try.func8
    (ChangeSpec.witness6 (enc := enc) (C := Try.checked) false ⟨#[], #[.agg #[.int .i64 0, .int .u64 0, .int .u64 0]], []⟩ 8 (by kernel_rfl) (by kernel_rfl) (by kernel_rfl) (by kernel_rfl)) ?_
  intro W base args ds gs before hval0 hW hcnd _
  have hval : ∀ (j : Nat) t v, Try.f8.params[j]? = some t → args[j]? = some v → Value.okWide Try.prog W .any base t v := hval0
  have hW' := hW
  obtain ⟨p, q, hA0, hV, rfl, hfz, hnd⟩ := hW
  have hA : DataW.TrodAll enc Try.prog W 0 (fun _ => true) true Try.f8.params.toList args.toList ds p := hA0
  rw [Try.params8] at hA hval
  obtain ⟨v0, vs0, d0, ds0, p0, q0, hargs, rfl, rfl, h0, r0⟩ := trodAll_cons hA
  obtain ⟨rfl, rfl, rfl⟩ := trodAll_nil r0
  obtain rfl : args = #[v0] := by cases args; simp_all
  obtain ⟨rfl, rfl⟩ := trodVars_none hV
  have k0 := h0
  have lt0 : ∀ x ∈ p0, x.block < W.heap.size := by obtain ⟨m, hm⟩ := k0; exact DataW.trod_lt m _ _ _ hm
  obtain ⟨s0, cs0, rfl, hk0, hw0⟩ := Opening.arg_struct Try.underlying81 opens81 (hval 0 81 v0 rfl rfl) h0
  obtain rfl := k81_open hk0
  clear hA0 hval0
  refine (HotW.none_walk s0.f0 s0.f1 s0.f2 W).mono fun e W' ⟨he, bel⟩ => ?_
  subst he
  exact ⟨_, rfl, _, _, _, [], _, [], hW', trodAll_mk1 (shut_bool Try.underlying4 _), (trodAll_cons_mk (Below.trod laidOut (by kernel_rfl) (of_decide_eq_true (by kernel_rfl)) k0 bel lt0) trodAll_mk0), rfl, bel.frame _, fun h => by cases h⟩
theorem over : Rows.hotNoneRow.holds Try.pinned (OpenSpec.ofChange Rows.hotNoneSpec) :=
  OpenClaim.holds_of_wide 8 Try.f8 rfl rfl rfl rfl rfl rfl rfl ⟨rfl, rfl, rfl, rfl, rfl⟩ rfl rfl rfl rfl rfl (by kernel_rfl) Try.func8 (by kernel_rfl)
    (of_decide_eq_true (by kernel_rfl)) (by unfold Func.isWrapper; first | (rw [if_pos (by decide +kernel)]; kernel_rfl) | (rw [if_neg (by decide +kernel)]; exact ⟨rfl, rfl⟩))
    (fun os started H enc _ => lifted os started H enc)
end Go.Proofs.Ytoobbolaoldacaa.hotNone
namespace Go.Proofs.Ytoobbolaoldacaa
theorem hotNone_holds : Rows.HotNoneSaid := hotNone.over
#print axioms hotNone_holds
end Go.Proofs.Ytoobbolaoldacaa
