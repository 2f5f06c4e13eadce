/-
  HotKeeps: what a use keeps, and that one that does not fit changes nothing: the call returns true.
-/
import Derived.Test.YtoobbolaoldacaaRows
import Derived.Test.YtoobbolaoldacaaOpen
import Derived.Test.YtoobbolaoldacaaHotK
import Derived.WalkKit
import Derived.ProofKit
import Derived.OpenShut
import Derived.ShutString
import Derived.ChangeOld
import Derived.Below
namespace Go.Proofs.Ytoobbolaoldacaa.hotKeeps
open Go.ChangeShapes Go.WideShapes Go.ChangeAt Go.RowKit Go.Proofs.YtoobbolaoldacaaW.PrintWords Go.Proofs.Ytoobbolaoldacaa 
open Go.ChangeMaps (open_string shut_string)
set_option linter.unusedVariables false
theorem own : ownKnob Try.prog.godebug = none := by kernel_rfl
theorem laidOut : laidOutB Try.prog = true := by kernel_rfl
structure S44 where
  f0 : Int
  f1 : Int
  f2 : Int
def k44 : Kd S44 := Kd.iso (Kd.pair (Kd.int .u64) (Kd.pair (Kd.int .u64) (Kd.int .u64))) (fun x : S44 => (x.f0, x.f1, x.f2))
theorem k44_open {w : World} {x : S44} {cs : List Value} (h : k44.K w x cs) : cs = [.int .u64 x.f0, .int .u64 x.f1, .int .u64 x.f2] := by
  obtain ⟨_, _, rfl, rfl, ⟨_, _, rfl, rfl, rfl⟩⟩ := h
  exact rfl
def wf44 (s : S44) : Prop := ((Lit.int .u64 s.f0).wf = true) ∧ ((Lit.int .u64 s.f1).wf = true) ∧ ((Lit.int .u64 s.f2).wf = true)
theorem opens44 : Opening.Opens Try.prog 44 k44 wf44 := by
  intro H enc w spare held fuel cs x hx
  exact Opening.opens_struct (f := fun x : S44 => (x.f0, x.f1, x.f2)) (fun p => ⟨p.1, p.2.1, p.2.2⟩) (fun _ => rfl) Try.underlying44 (by kernel_rfl) (Opening.opensF_cons rfl (by kernel_rfl) (Opening.opens_int Try.underlying42) (Opening.opensF_cons rfl (by kernel_rfl) (Opening.opens_int Try.underlying42) (Opening.opensF_one rfl (by kernel_rfl) (Opening.opens_int Try.underlying42)))) enc w spare held fuel cs x hx
set_option maxRecDepth 100000 in
theorem lifted (os : Os) (started : os.Started) (H : Type) (enc : TypeId × Value → H) :
    ReturnsInHanded {} Try.checked os 4 .any (Rows.hotKeepsSpec.pre6 enc Try.prog Try.f4 Rows.hotKeepsRow.domain false) (Rows.hotKeepsSpec.post enc Try.prog Try.f4 false true false false) := by
  refine returnsInHanded_of_change (C := Try.checked) own started (by kernel_rfl) Try.func4
    (ChangeSpec.witness6 (enc := enc) (C := Try.checked) false ⟨#[], #[.int .i64 0, .agg #[.int .u64 0, .int .u64 0, .int .u64 0]], []⟩ 8 (by kernel_rfl) (by kernel_rfl) (by kernel_rfl) (by kernel_rfl)) ?_
  intro W base args ds gs before hval0 hW hcnd _
  have hval : ∀ (j : Nat) t v, Try.f4.params[j]? = some t → args[j]? = some v → Value.okWide Try.prog W .any base t v := hval0
  have hW' := hW
  obtain ⟨p, q, hA0, hV, rfl, hfz, hnd⟩ := hW
  have hA : DataW.TrodAll enc Try.prog W 0 (fun _ => true) true Try.f4.params.toList args.toList ds p := hA0
  rw [Try.params4] at hA hval
  obtain ⟨v0, vs0, d0, ds0, p0, q0, hargs, rfl, rfl, h0, r0⟩ := trodAll_cons hA
  obtain ⟨v1, vs1, d1, ds1, p1, q1, rfl, rfl, rfl, h1, r1⟩ := trodAll_cons r0
  obtain ⟨rfl, rfl, rfl⟩ := trodAll_nil r1
  obtain rfl : args = #[v0, v1] := by cases args; simp_all
  obtain ⟨rfl, rfl⟩ := trodVars_none hV
  obtain ⟨a0, rfl, rfl, rfl, w0⟩ := open_int Try.underlying3 (hval 0 3 v0 rfl rfl) h0
  have k1 := h1
  have lt1 : ∀ x ∈ p1, x.block < W.heap.size := by obtain ⟨m, hm⟩ := k1; exact DataW.trod_lt m _ _ _ hm
  obtain ⟨s1, cs1, rfl, hk1, hw1⟩ := Opening.arg_struct Try.underlying44 opens44 (hval 1 44 v1 rfl rfl) h1
  obtain rfl := k44_open hk1
  clear hA0 hval0
  obtain ⟨z0, z1, z2⟩ := hw1
  obtain ⟨m0, e0, h0'⟩ := HotP.u64_of z0
  obtain ⟨m1, e1, h1'⟩ := HotP.u64_of z1
  obtain ⟨m2, e2, h2'⟩ := HotP.u64_of z2
  have WK := HotW.keeps_walk a0 m0 m1 m2 h0' h1' h2' W
  rw [← e0, ← e1, ← e2] at WK
  refine (WK).mono fun e W' ⟨he, bel⟩ => ?_
  subst he
  exact ⟨_, rfl, _, _, _, [], _, [], hW', trodAll_mk1 (shut_bool Try.underlying4 _), (trodAll_cons_mk (shut_int Try.underlying3 w0) (trodAll_cons_mk (Below.trod laidOut (by kernel_rfl) (of_decide_eq_true (by kernel_rfl)) k1 bel lt1) trodAll_mk0)), rfl, bel.frame _, fun h => by cases h⟩
theorem over : Rows.hotKeepsRow.holds Try.pinned (OpenSpec.ofChange Rows.hotKeepsSpec) :=
  OpenClaim.holds_of_wide 4 Try.f4 rfl rfl rfl rfl rfl rfl rfl ⟨rfl, rfl, rfl, rfl, rfl⟩ rfl rfl rfl rfl rfl (by kernel_rfl) Try.func4 (by kernel_rfl)
    (of_decide_eq_true (by kernel_rfl)) (by unfold Func.isWrapper; first | (rw [if_pos (by decide +kernel)]; kernel_rfl) | (rw [if_neg (by decide +kernel)]; exact ⟨rfl, rfl⟩))
    (fun os started H enc _ => lifted os started H enc)
end Go.Proofs.Ytoobbolaoldacaa.hotKeeps
namespace Go.Proofs.Ytoobbolaoldacaa
theorem hotKeeps_holds : Rows.HotKeepsSaid := hotKeeps.over
#print axioms hotKeeps_holds
end Go.Proofs.Ytoobbolaoldacaa
