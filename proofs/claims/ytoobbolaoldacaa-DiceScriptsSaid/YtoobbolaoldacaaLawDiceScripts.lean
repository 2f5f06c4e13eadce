/-
  DiceScripts: every seed's script is the document's, and may be, and a longer one begins with it: the call returns true.
-/
import Derived.Test.YtoobbolaoldacaaRows
import Derived.Test.YtoobbolaoldacaaOpen
import Derived.Test.YtoobbolaoldacaaDiceSX
import Derived.Test.YtoobbolaoldacaaOpenA
import Derived.WalkKit
import Derived.ProofKit
import Derived.OpenShut
import Derived.ShutString
import Derived.ChangeOld
import Derived.Below
namespace Go.Proofs.Ytoobbolaoldacaa.diceScripts
open Go.ChangeShapes Go.WideShapes Go.ChangeAt Go.RowKit Go.Proofs.YtoobbolaoldacaaW.PrintWords Go.Proofs.Ytoobbolaoldacaa Go.Proofs.Ytoobbolaoldacaa.Dice Go.Proofs.Ytoobbolaoldacaa.DiceW
open Go.ChangeMaps (open_string shut_string)
set_option linter.unusedVariables false
theorem own : ownKnob Try.prog.godebug = none := by kernel_rfl
theorem laidOut : laidOutB Try.prog = true := by kernel_rfl
structure S92 where
  f0 : Int
  f1 : Int
  f2 : Int
  f3 : Int
  f4 : Int
def k92 : Kd S92 := Kd.iso (Kd.pair (Kd.int .i64) (Kd.pair (Kd.int .i64) (Kd.pair (Kd.int .i64) (Kd.pair (Kd.int .i64) (Kd.int .i64))))) (fun x : S92 => (x.f0, x.f1, x.f2, x.f3, x.f4))
theorem k92_open {w : World} {x : S92} {cs : List Value} (h : k92.K w x cs) : cs = [.int .i64 x.f0, .int .i64 x.f1, .int .i64 x.f2, .int .i64 x.f3, .int .i64 x.f4] := by
  obtain ⟨_, _, rfl, rfl, ⟨_, _, rfl, rfl, ⟨_, _, rfl, rfl, ⟨_, _, rfl, rfl, rfl⟩⟩⟩⟩ := h
  exact rfl
def wf92 (s : S92) : Prop := ((Lit.int .i64 s.f0).wf = true) ∧ ((Lit.int .i64 s.f1).wf = true) ∧ ((Lit.int .i64 s.f2).wf = true) ∧ ((Lit.int .i64 s.f3).wf = true) ∧ ((Lit.int .i64 s.f4).wf = true)
theorem opens92 : Opening.Opens Try.prog 92 k92 wf92 := by
  intro H enc w spare held fuel cs x hx
  exact Opening.opens_struct (f := fun x : S92 => (x.f0, x.f1, x.f2, x.f3, x.f4)) (fun p => ⟨p.1, p.2.1, p.2.2.1, p.2.2.2.1, p.2.2.2.2⟩) (fun _ => rfl) Try.underlying92 (by kernel_rfl) (Opening.opensF_cons rfl (by kernel_rfl) (Opening.opens_int Try.underlying3) (Opening.opensF_cons rfl (by kernel_rfl) (Opening.opens_int Try.underlying3) (Opening.opensF_cons rfl (by kernel_rfl) (Opening.opens_int Try.underlying3) (Opening.opensF_cons rfl (by kernel_rfl) (Opening.opens_int Try.underlying3) (Opening.opensF_one rfl (by kernel_rfl) (Opening.opens_int Try.underlying3)))))) enc w spare held fuel cs x hx
structure S123 where
  f0 : Int
  f1 : Int
  f2 : Int
  f3 : OpenA.S8
def k123 : Kd S123 := Kd.iso (Kd.pair (Kd.int .u64) (Kd.pair (Kd.int .i64) (Kd.pair (Kd.int .i64) OpenA.k8))) (fun x : S123 => (x.f0, x.f1, x.f2, x.f3))
theorem k123_open {w : World} {x : S123} {cs : List Value} (h : k123.K w x cs) : cs = [.int .u64 x.f0, .int .i64 x.f1, .int .i64 x.f2, .int .i64 x.f3.f0, .int .i64 x.f3.f1, .int .i64 x.f3.f2, .int .i64 x.f3.f3, .int .i64 x.f3.f4, .int .i64 x.f3.f5, .int .i64 x.f3.f6, .int .i64 x.f3.f7] := by
  obtain ⟨_, _, rfl, rfl, ⟨_, _, rfl, rfl, ⟨_, _, rfl, rfl, s3⟩⟩⟩ := h
  obtain rfl := OpenA.k8_open s3
  exact rfl
def wf123 (s : S123) : Prop := ((Lit.int .u64 s.f0).wf = true) ∧ ((Lit.int .i64 s.f1).wf = true) ∧ ((Lit.int .i64 s.f2).wf = true) ∧ (OpenA.wf8 s.f3)
theorem opens123 : Opening.Opens Try.prog 123 k123 wf123 := by
  intro H enc w spare held fuel cs x hx
  exact Opening.opens_struct (f := fun x : S123 => (x.f0, x.f1, x.f2, x.f3)) (fun p => ⟨p.1, p.2.1, p.2.2.1, p.2.2.2⟩) (fun _ => rfl) Try.underlying123 (by kernel_rfl) (Opening.opensF_cons rfl (by kernel_rfl) (Opening.opens_int Try.underlying42) (Opening.opensF_cons rfl (by kernel_rfl) (Opening.opens_int Try.underlying3) (Opening.opensF_cons rfl (by kernel_rfl) (Opening.opens_int Try.underlying3) (Opening.opensF_one rfl (by kernel_rfl) (OpenA.opens_arr8 Try.underlying93 Try.underlying3 (by kernel_rfl) (by kernel_rfl)))))) enc w spare held fuel cs x hx
set_option maxRecDepth 100000 in
theorem lifted (os : Os) (started : os.Started) (H : Type) (enc : TypeId × Value → H) :
    ReturnsInHanded {} Try.checked os 12 .any (Rows.diceScriptsSpec.pre6 enc Try.prog Try.f12 Rows.diceScriptsRow.domain false) (Rows.diceScriptsSpec.post enc Try.prog Try.f12 false true false false) := by
  refine returnsInHanded_of_change (C := Try.checked) own started (by kernel_rfl) Try.func12
    (ChangeSpec.witness6 (enc := enc) (C := Try.checked) false ⟨#[], #[.agg #[.int .i64 0, .int .i64 0, .int .i64 0, .int .i64 0, .int .i64 0], .agg #[.int .u64 0, .int .i64 0, .int .i64 0, .int .i64 0, .int .i64 0, .int .i64 0, .int .i64 0, .int .i64 0, .int .i64 0, .int .i64 0, .int .i64 0]], []⟩ 8 (by kernel_rfl) (by kernel_rfl) (by kernel_rfl) (by kernel_rfl)) ?_
  intro W base args ds gs before hval0 hW hcnd _
  have hval : ∀ (j : Nat) t v, Try.f12.params[j]? = some t → args[j]? = some v → Value.okWide Try.prog W .any base t v := hval0
  have hW' := hW
  obtain ⟨p, q, hA0, hV, rfl, hfz, hnd⟩ := hW
  have hA : DataW.TrodAll enc Try.prog W 0 (fun _ => true) true Try.f12.params.toList args.toList ds p := hA0
  rw [Try.params12] at hA hval
  obtain ⟨v0, vs0, d0, ds0, p0, q0, hargs, rfl, rfl, h0, r0⟩ := trodAll_cons hA
  obtain ⟨v1, vs1, d1, ds1, p1, q1, rfl, rfl, rfl, h1, r1⟩ := trodAll_cons r0
  obtain ⟨rfl, rfl, rfl⟩ := trodAll_nil r1
  obtain rfl : args = #[v0, v1] := by cases args; simp_all
  obtain ⟨rfl, rfl⟩ := trodVars_none hV
  have k0 := h0
  have lt0 : ∀ x ∈ p0, x.block < W.heap.size := by obtain ⟨m, hm⟩ := k0; exact DataW.trod_lt m _ _ _ hm
  obtain ⟨s0, cs0, rfl, hk0, hw0⟩ := Opening.arg_struct Try.underlying92 opens92 (hval 0 92 v0 rfl rfl) h0
  obtain rfl := k92_open hk0
  have k1 := h1
  have lt1 : ∀ x ∈ p1, x.block < W.heap.size := by obtain ⟨m, hm⟩ := k1; exact DataW.trod_lt m _ _ _ hm
  obtain ⟨s1, cs1, rfl, hk1, hw1⟩ := Opening.arg_struct Try.underlying123 opens123 (hval 1 123 v1 rfl rfl) h1
  obtain rfl := k123_open hk1
  clear hA0 hval0
  refine (DiceW.scripts_any s1.f0 s1.f1 s1.f2 hw1.1 hw1.2.1 hw1.2.2.1 s0.f0 s0.f1 s0.f2 s0.f3 s0.f4 s1.f3.f0 s1.f3.f1 s1.f3.f2 s1.f3.f3 s1.f3.f4 s1.f3.f5 s1.f3.f6 s1.f3.f7 W).mono fun e W' ⟨he, bel⟩ => ?_
  subst he
  exact ⟨_, rfl, _, _, _, [], _, [], hW', trodAll_mk1 (shut_bool Try.underlying4 _), (trodAll_cons_mk (Below.trod laidOut (by kernel_rfl) (of_decide_eq_true (by kernel_rfl)) k0 bel lt0) (trodAll_cons_mk (Below.trod laidOut (by kernel_rfl) (of_decide_eq_true (by kernel_rfl)) k1 bel lt1) trodAll_mk0)), rfl, bel.frame _, fun h => by cases h⟩
theorem over : Rows.diceScriptsRow.holds Try.pinned (OpenSpec.ofChange Rows.diceScriptsSpec) :=
  OpenClaim.holds_of_wide 12 Try.f12 rfl rfl rfl rfl rfl rfl rfl ⟨rfl, rfl, rfl, rfl, rfl⟩ rfl rfl rfl rfl rfl (by kernel_rfl) Try.func12 (by kernel_rfl)
    (of_decide_eq_true (by kernel_rfl)) (by unfold Func.isWrapper; first | (rw [if_pos (by decide +kernel)]; kernel_rfl) | (rw [if_neg (by decide +kernel)]; exact ⟨rfl, rfl⟩))
    (fun os started H enc _ => lifted os started H enc)
end Go.Proofs.Ytoobbolaoldacaa.diceScripts
namespace Go.Proofs.Ytoobbolaoldacaa
theorem diceScripts_holds : Rows.DiceScriptsSaid := diceScripts.over
#print axioms diceScripts_holds
end Go.Proofs.Ytoobbolaoldacaa
