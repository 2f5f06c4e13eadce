/-
  WaitTells: of any requests that wait, fly, and wait here, those that may go on are the document's: the call returns true.
-/
import Derived.Test.YteclkapffhjddaaRows
import Derived.Test.YteclkapffhjddaaOpen
import Derived.Test.YteclkapffhjddaaWaitTells
import Derived.WalkKit
import Derived.ProofKit
import Derived.OpenShut
import Derived.ShutString
import Derived.ChangeOld
import Derived.Below
namespace Go.Proofs.Yteclkapffhjddaa.waitTells
open Go.ChangeShapes Go.WideShapes Go.ChangeAt Go.RowKit Go.Proofs.YteclkapffhjddaaW.PrintWords Go.Proofs.Yteclkapffhjddaa Go.Proofs.Yteclkapffhjddaa.Wait
open Go.ChangeMaps (open_string shut_string)
set_option linter.unusedVariables false
theorem own : ownKnob Try.prog.godebug = none := by kernel_rfl
theorem laidOut : laidOutB Try.prog = true := by kernel_rfl
def wf55 (s : S55) : Prop := ((Lit.int .i64 s.f0).wf = true) ∧ ((Lit.int .i64 s.f1).wf = true)
theorem opens55 : Opening.Opens Try.prog 55 k55 wf55 := by
  intro H enc w spare held fuel cs x hx
  exact Opening.opens_struct (f := fun x : S55 => (x.f0, x.f1)) (fun p => ⟨p.1, p.2⟩) (fun _ => rfl) Try.underlying55 (by kernel_rfl) (Opening.opensF_cons rfl (by kernel_rfl) (Opening.opens_int Try.underlying3) (Opening.opensF_one rfl (by kernel_rfl) (Opening.opens_int Try.underlying3))) enc w spare held fuel cs x hx
def wf76 (s : S76) : Prop := ((Lit.int .i64 s.f0).wf = true) ∧ ((Lit.int .i64 s.f1).wf = true) ∧ (wf55 s.f2)
theorem opens76 : Opening.Opens Try.prog 76 k76 wf76 := by
  intro H enc w spare held fuel cs x hx
  exact Opening.opens_struct (f := fun x : S76 => (x.f0, x.f1, x.f2)) (fun p => ⟨p.1, p.2.1, p.2.2⟩) (fun _ => rfl) Try.underlying76 (by kernel_rfl) (Opening.opensF_cons rfl (by kernel_rfl) (Opening.opens_int Try.underlying3) (Opening.opensF_cons rfl (by kernel_rfl) (Opening.opens_int Try.underlying3) (Opening.opensF_one rfl (by kernel_rfl) opens55))) enc w spare held fuel cs x hx
structure S63 where
  f0 : (List S55)
  f1 : Int
def k63 : Kd S63 := Kd.iso (Kd.pair (Kd.slice 55 k55) (Kd.int .i64)) (fun x : S63 => (x.f0, x.f1))
theorem k63_open {w : World} {x : S63} {cs : List Value} (h : k63.K w x cs) : ∃ A0 c0, cs = [.slice A0 x.f0.length c0, .int .i64 x.f1] ∧ x.f0.length ≤ c0 ∧ k55.C w A0 x.f0.length x.f0 := by
  obtain ⟨_, _, rfl, ⟨A0, c0, rfl, l0, g0⟩, rfl⟩ := h
  exact ⟨A0, c0, rfl, l0, g0⟩
def wf63 (s : S63) : Prop := ((s.f0.length ≤ maxLen ∧ ∀ y ∈ s.f0, wf55 y)) ∧ ((Lit.int .i64 s.f1).wf = true)
theorem opens63 : Opening.Opens Try.prog 63 k63 wf63 := by
  intro H enc w spare held fuel cs x hx
  exact Opening.opens_struct (f := fun x : S63 => (x.f0, x.f1)) (fun p => ⟨p.1, p.2⟩) (fun _ => rfl) Try.underlying63 (by kernel_rfl) (Opening.opensF_cons rfl (by kernel_rfl) (Opening.opens_slice Try.underlying61 (by kernel_rfl) opens55) (Opening.opensF_one rfl (by kernel_rfl) (Opening.opens_int Try.underlying3))) enc w spare held fuel cs x hx
set_option maxRecDepth 100000 in
theorem lifted (os : Os) (started : os.Started) (H : Type) (enc : TypeId × Value → H) :
    ReturnsInHanded {} Try.checked os 11 .any (Rows.waitTellsSpec.pre6 enc Try.prog Try.f11 Rows.waitTellsRow.domain false) (Rows.waitTellsSpec.post enc Try.prog Try.f11 false true false false) := by
  refine returnsInHanded_of_change (C := Try.checked) own started (by kernel_rfl) Try.func11
    (ChangeSpec.witness6 (enc := enc) (C := Try.checked) false ⟨#[], #[.slice none 0 0, .slice none 0 0, .agg #[.slice none 0 0, .int .i64 0]], []⟩ 8 (by kernel_rfl) (by kernel_rfl) (by kernel_rfl) (by kernel_rfl)) ?_
  intro W base args ds gs before hval0 hW hcnd _
  have hval : ∀ (j : Nat) t v, Try.f11.params[j]? = some t → args[j]? = some v → Value.okWide Try.prog W .any base t v := hval0
  have hW' := hW
  obtain ⟨p, q, hA0, hV, rfl, hfz, hnd⟩ := hW
  have hA : DataW.TrodAll enc Try.prog W 0 (fun _ => true) true Try.f11.params.toList args.toList ds p := hA0
  rw [Try.params11] at hA hval
  obtain ⟨v0, vs0, d0, ds0, p0, q0, hargs, rfl, rfl, h0, r0⟩ := trodAll_cons hA
  obtain ⟨v1, vs1, d1, ds1, p1, q1, rfl, rfl, rfl, h1, r1⟩ := trodAll_cons r0
  obtain ⟨v2, vs2, d2, ds2, p2, q2, rfl, rfl, rfl, h2, r2⟩ := trodAll_cons r1
  obtain ⟨rfl, rfl, rfl⟩ := trodAll_nil r2
  obtain rfl : args = #[v0, v1, v2] := by cases args; simp_all
  obtain ⟨rfl, rfl⟩ := trodVars_none hV
  have k0 := h0
  have lt0 : ∀ x ∈ p0, x.block < W.heap.size := by obtain ⟨m, hm⟩ := k0; exact DataW.trod_lt m _ _ _ hm
  obtain ⟨A0, c0, l0, rfl, hc0, hr0, hw0⟩ := Opening.arg_slice Try.underlying50 (Opening.opens_slice Try.underlying50 (by kernel_rfl) opens76) (hval 0 50 v0 rfl rfl) h0
  have k1 := h1
  have lt1 : ∀ x ∈ p1, x.block < W.heap.size := by obtain ⟨m, hm⟩ := k1; exact DataW.trod_lt m _ _ _ hm
  obtain ⟨A1, c1, l1, rfl, hc1, hr1, hw1⟩ := Opening.arg_slice Try.underlying50 (Opening.opens_slice Try.underlying50 (by kernel_rfl) opens76) (hval 1 50 v1 rfl rfl) h1
  have k2 := h2
  have lt2 : ∀ x ∈ p2, x.block < W.heap.size := by obtain ⟨m, hm⟩ := k2; exact DataW.trod_lt m _ _ _ hm
  obtain ⟨s2, cs2, rfl, hk2, hw2⟩ := Opening.arg_struct Try.underlying63 opens63 (hval 2 63 v2 rfl rfl) h2
  obtain ⟨A2_0, c2_0, rfl, hc2_0, hr2_0⟩ := k63_open hk2
  clear hA0 hval0
  refine (twainlaw16_WaitTells.calls 500 A0 c0 l0 A1 c1 l1 A2_0 c2_0 s2.f0 s2.f1 true W hr0 hc0 hr1 hc1 hr2_0 hc2_0 (WaitTells.tells_p l0 l1 s2.f0 s2.f1 (WaitTells.i64_of hw2.2).2)).mono fun e W' ⟨he, bel⟩ => ?_
  subst he
  exact ⟨_, rfl, _, _, _, [], _, [], hW', trodAll_mk1 (shut_bool Try.underlying4 _), (trodAll_cons_mk (Below.trod laidOut (by kernel_rfl) (of_decide_eq_true (by kernel_rfl)) k0 bel lt0) (trodAll_cons_mk (Below.trod laidOut (by kernel_rfl) (of_decide_eq_true (by kernel_rfl)) k1 bel lt1) (trodAll_cons_mk (Below.trod laidOut (by kernel_rfl) (of_decide_eq_true (by kernel_rfl)) k2 bel lt2) trodAll_mk0))), rfl, bel.frame _, fun h => by cases h⟩
theorem over : Rows.waitTellsRow.holds Try.pinned (OpenSpec.ofChange Rows.waitTellsSpec) :=
  OpenClaim.holds_of_wide 11 Try.f11 rfl rfl rfl rfl rfl rfl rfl ⟨rfl, rfl, rfl, rfl, rfl⟩ rfl rfl rfl rfl rfl (by kernel_rfl) Try.func11 (by kernel_rfl)
    (of_decide_eq_true (by kernel_rfl)) (by unfold Func.isWrapper; first | (rw [if_pos (by decide +kernel)]; kernel_rfl) | (rw [if_neg (by decide +kernel)]; exact ⟨rfl, rfl⟩))
    (fun os started H enc _ => lifted os started H enc)
end Go.Proofs.Yteclkapffhjddaa.waitTells
namespace Go.Proofs.Yteclkapffhjddaa
theorem waitTells_holds : Rows.WaitTellsSaid := waitTells.over
#print axioms waitTells_holds
end Go.Proofs.Yteclkapffhjddaa
