/-
  LaterNone: of a queue that no call made nothing waits: the call returns true.
-/
import Derived.Test.YtoobbolaoldacaaRows
import Derived.Test.YtoobbolaoldacaaOpen
import Derived.Test.YtoobbolaoldacaaLaterN
import Derived.WalkKit
import Derived.ProofKit
import Derived.OpenShut
import Derived.ShutString
import Derived.ChangeOld
import Derived.Below
namespace Go.Proofs.Ytoobbolaoldacaa.laterNone
open Go.ChangeShapes Go.WideShapes Go.ChangeAt Go.RowKit Go.Proofs.YtoobbolaoldacaaW.PrintWords Go.Proofs.Ytoobbolaoldacaa Go.Proofs.Ytoobbolaoldacaa.LaterW
open Go.ChangeMaps (open_string shut_string)
set_option linter.unusedVariables false
theorem own : ownKnob Try.prog.godebug = none := by kernel_rfl
theorem laidOut : laidOutB Try.prog = true := by kernel_rfl
structure S27 where
  f0 : Int
  f1 : Int
def k27 : Kd S27 := Kd.iso (Kd.pair (Kd.int .i64) (Kd.int .i64)) (fun x : S27 => (x.f0, x.f1))
theorem k27_open {w : World} {x : S27} {cs : List Value} (h : k27.K w x cs) : cs = [.int .i64 x.f0, .int .i64 x.f1] := by
  obtain ⟨_, _, rfl, rfl, rfl⟩ := h
  exact rfl
def wf27 (s : S27) : Prop := ((Lit.int .i64 s.f0).wf = true) ∧ ((Lit.int .i64 s.f1).wf = true)
theorem opens27 : Opening.Opens Try.prog 27 k27 wf27 := by
  intro H enc w spare held fuel cs x hx
  exact Opening.opens_struct (f := fun x : S27 => (x.f0, x.f1)) (fun p => ⟨p.1, p.2⟩) (fun _ => rfl) Try.underlying27 (by kernel_rfl) (Opening.opensF_cons rfl (by kernel_rfl) (Opening.opens_int Try.underlying3) (Opening.opensF_one rfl (by kernel_rfl) (Opening.opens_int Try.underlying3))) enc w spare held fuel cs x hx
structure S140 where
  f0 : S27
  f1 : Bool
def k140 : Kd S140 := Kd.iso (Kd.pair k27 Kd.bool) (fun x : S140 => (x.f0, x.f1))
theorem k140_open {w : World} {x : S140} {cs : List Value} (h : k140.K w x cs) : cs = [.int .i64 x.f0.f0, .int .i64 x.f0.f1, .bool x.f1] := by
  obtain ⟨_, _, rfl, s0, rfl⟩ := h
  obtain rfl := k27_open s0
  exact rfl
def wf140 (s : S140) : Prop := (wf27 s.f0) ∧ (True)
theorem opens140 : Opening.Opens Try.prog 140 k140 wf140 := by
  intro H enc w spare held fuel cs x hx
  exact Opening.opens_struct (f := fun x : S140 => (x.f0, x.f1)) (fun p => ⟨p.1, p.2⟩) (fun _ => rfl) Try.underlying140 (by kernel_rfl) (Opening.opensF_cons rfl (by kernel_rfl) opens27 (Opening.opensF_one rfl (by kernel_rfl) (Opening.opens_bool Try.underlying4))) enc w spare held fuel cs x hx
structure S31 where
  f0 : Bool
  f1 : Int
  f2 : S27
  f3 : (List Int)
  f4 : (List S140)
def k31 : Kd S31 := Kd.iso (Kd.pair Kd.bool (Kd.pair (Kd.int .i64) (Kd.pair k27 (Kd.pair (Kd.slice 5 (Kd.int .u8)) (Kd.slice 140 k140))))) (fun x : S31 => (x.f0, x.f1, x.f2, x.f3, x.f4))
theorem k31_open {w : World} {x : S31} {cs : List Value} (h : k31.K w x cs) : ∃ A4 c4 A5 c5, cs = [.bool x.f0, .int .i64 x.f1, .int .i64 x.f2.f0, .int .i64 x.f2.f1, .slice A4 x.f3.length c4, .slice A5 x.f4.length c5] ∧ x.f3.length ≤ c4 ∧ x.f4.length ≤ c5 ∧ (Kd.int .u8).C w A4 x.f3.length x.f3 ∧ k140.C w A5 x.f4.length x.f4 := by
  obtain ⟨_, _, rfl, rfl, ⟨_, _, rfl, rfl, ⟨_, _, rfl, s2, ⟨_, _, rfl, ⟨A4, c4, rfl, l4, g4⟩, ⟨A5, c5, rfl, l5, g5⟩⟩⟩⟩⟩ := h
  obtain rfl := k27_open s2
  exact ⟨A4, c4, A5, c5, rfl, l4, l5, g4, g5⟩
def wf31 (s : S31) : Prop := (True) ∧ ((Lit.int .i64 s.f1).wf = true) ∧ (wf27 s.f2) ∧ ((s.f3.length ≤ maxLen ∧ ∀ y ∈ s.f3, (Lit.int .u8 y).wf = true)) ∧ ((s.f4.length ≤ maxLen ∧ ∀ y ∈ s.f4, wf140 y))
theorem opens31 : Opening.Opens Try.prog 31 k31 wf31 := by
  intro H enc w spare held fuel cs x hx
  exact Opening.opens_struct (f := fun x : S31 => (x.f0, x.f1, x.f2, x.f3, x.f4)) (fun p => ⟨p.1, p.2.1, p.2.2.1, p.2.2.2.1, p.2.2.2.2⟩) (fun _ => rfl) Try.underlying31 (by kernel_rfl) (Opening.opensF_cons rfl (by kernel_rfl) (Opening.opens_bool Try.underlying4) (Opening.opensF_cons rfl (by kernel_rfl) (Opening.opens_int Try.underlying3) (Opening.opensF_cons rfl (by kernel_rfl) opens27 (Opening.opensF_cons rfl (by kernel_rfl) (Opening.opens_slice Try.underlying28 (by kernel_rfl) (Opening.opens_int Try.underlying5)) (Opening.opensF_one rfl (by kernel_rfl) (Opening.opens_slice Try.underlying29 (by kernel_rfl) opens140)))))) enc w spare held fuel cs x hx
set_option maxRecDepth 100000 in
theorem lifted (os : Os) (started : os.Started) (H : Type) (enc : TypeId × Value → H) :
    ReturnsInHanded {} Try.checked os 6 .any (Rows.laterNoneSpec.pre6 enc Try.prog Try.f6 Rows.laterNoneRow.domain false) (Rows.laterNoneSpec.post enc Try.prog Try.f6 false true false false) := by
  refine returnsInHanded_of_change (C := Try.checked) own started (by kernel_rfl) Try.func6
    (ChangeSpec.witness6 (enc := enc) (C := Try.checked) false ⟨#[], #[.agg #[.bool false, .int .i64 0, .int .i64 0, .int .i64 0, .slice none 0 0, .slice none 0 0]], []⟩ 8 (by kernel_rfl) (by kernel_rfl) (by kernel_rfl) (by kernel_rfl)) ?_
  intro W base args ds gs before hval0 hW hcnd _
  have hval : ∀ (j : Nat) t v, Try.f6.params[j]? = some t → args[j]? = some v → Value.okWide Try.prog W .any base t v := hval0
  have hW' := hW
  obtain ⟨p, q, hA0, hV, rfl, hfz, hnd⟩ := hW
  have hA : DataW.TrodAll enc Try.prog W 0 (fun _ => true) true Try.f6.params.toList args.toList ds p := hA0
  rw [Try.params6] at hA hval
  obtain ⟨v0, vs0, d0, ds0, p0, q0, hargs, rfl, rfl, h0, r0⟩ := trodAll_cons hA
  obtain ⟨rfl, rfl, rfl⟩ := trodAll_nil r0
  obtain rfl : args = #[v0] := by cases args; simp_all
  obtain ⟨rfl, rfl⟩ := trodVars_none hV
  have k0 := h0
  have lt0 : ∀ x ∈ p0, x.block < W.heap.size := by obtain ⟨m, hm⟩ := k0; exact DataW.trod_lt m _ _ _ hm
  obtain ⟨s0, cs0, rfl, hk0, hw0⟩ := Opening.arg_struct Try.underlying31 opens31 (hval 0 31 v0 rfl rfl) h0
  obtain ⟨A0_4, c0_4, A0_5, c0_5, rfl, hc0_4, hr0_4, hc0_5, hr0_5⟩ := k31_open hk0
  clear hA0 hval0
  refine (LaterW.none_walk s0.f0 s0.f1 s0.f2.f0 s0.f2.f1 A0_4 s0.f3.length c0_4 A0_5 s0.f4.length c0_5 W).mono fun e W' ⟨he, bel⟩ => ?_
  subst he
  exact ⟨_, rfl, _, _, _, [], _, [], hW', trodAll_mk1 (shut_bool Try.underlying4 _), (trodAll_cons_mk (Below.trod laidOut (by kernel_rfl) (of_decide_eq_true (by kernel_rfl)) k0 bel lt0) trodAll_mk0), rfl, bel.frame _, fun h => by cases h⟩
theorem over : Rows.laterNoneRow.holds Try.pinned (OpenSpec.ofChange Rows.laterNoneSpec) :=
  OpenClaim.holds_of_wide 6 Try.f6 rfl rfl rfl rfl rfl rfl rfl ⟨rfl, rfl, rfl, rfl, rfl⟩ rfl rfl rfl rfl rfl (by kernel_rfl) Try.func6 (by kernel_rfl)
    (of_decide_eq_true (by kernel_rfl)) (by unfold Func.isWrapper; first | (rw [if_pos (by decide +kernel)]; kernel_rfl) | (rw [if_neg (by decide +kernel)]; exact ⟨rfl, rfl⟩))
    (fun os started H enc _ => lifted os started H enc)
end Go.Proofs.Ytoobbolaoldacaa.laterNone
namespace Go.Proofs.Ytoobbolaoldacaa
theorem laterNone_holds : Rows.LaterNoneSaid := laterNone.over
#print axioms laterNone_holds
end Go.Proofs.Ytoobbolaoldacaa
