/-
  RequestSmall: a read or a write that may be has one to eight sectors: the call returns true.
-/
import Derived.Test.YtajpnohhahffbaaRows
import Derived.Test.YtajpnohhahffbaaOpen
import Derived.Test.YtajpnohhahffbaaRequestPure
import Derived.WalkKit
import Derived.ProofKit
import Derived.OpenShut
import Derived.ShutString
import Derived.ChangeOld
import Derived.Below
namespace Go.Proofs.Ytajpnohhahffbaa.requestSmall
open Go.ChangeShapes Go.WideShapes Go.ChangeAt Go.RowKit Go.Proofs.YtajpnohhahffbaaW.PrintWords Go.Proofs.Ytajpnohhahffbaa Go.Proofs.Ytajpnohhahffbaa.Request
open Go.ChangeMaps (open_string shut_string)
set_option linter.unusedVariables false
theorem own : ownKnob Try.prog.godebug = none := by kernel_rfl
theorem laidOut : laidOutB Try.prog = true := by kernel_rfl
def wf44 (s : S44) : Prop := ((Lit.int .i64 s.f0).wf = true) ∧ ((Lit.int .i64 s.f1).wf = true) ∧ ((Lit.int .i64 s.f2).wf = true) ∧ ((Lit.int .i64 s.f3).wf = true) ∧ ((Lit.int .i64 s.f4).wf = true)
theorem opens44 : Opening.Opens Try.prog 44 k44 wf44 := by
  intro H enc w spare held fuel cs x hx
  exact Opening.opens_struct (f := fun x : S44 => (x.f0, x.f1, x.f2, x.f3, x.f4)) (fun p => ⟨p.1, p.2.1, p.2.2.1, p.2.2.2.1, p.2.2.2.2⟩) (fun _ => rfl) Try.underlying44 (by kernel_rfl) (Opening.opensF_cons rfl (by kernel_rfl) (Opening.opens_int Try.underlying3) (Opening.opensF_cons rfl (by kernel_rfl) (Opening.opens_int Try.underlying3) (Opening.opensF_cons rfl (by kernel_rfl) (Opening.opens_int Try.underlying3) (Opening.opensF_cons rfl (by kernel_rfl) (Opening.opens_int Try.underlying3) (Opening.opensF_one rfl (by kernel_rfl) (Opening.opens_int Try.underlying3)))))) enc w spare held fuel cs x hx
structure S23 where
  f0 : Int
  f1 : Int
def k23 : Kd S23 := Kd.iso (Kd.pair (Kd.int .i64) (Kd.int .i64)) (fun x : S23 => (x.f0, x.f1))
theorem k23_open {w : World} {x : S23} {cs : List Value} (h : k23.K w x cs) : cs = [.int .i64 x.f0, .int .i64 x.f1] := by
  obtain ⟨_, _, rfl, rfl, rfl⟩ := h
  exact rfl
def wf23 (s : S23) : Prop := ((Lit.int .i64 s.f0).wf = true) ∧ ((Lit.int .i64 s.f1).wf = true)
theorem opens23 : Opening.Opens Try.prog 23 k23 wf23 := by
  intro H enc w spare held fuel cs x hx
  exact Opening.opens_struct (f := fun x : S23 => (x.f0, x.f1)) (fun p => ⟨p.1, p.2⟩) (fun _ => rfl) Try.underlying23 (by kernel_rfl) (Opening.opensF_cons rfl (by kernel_rfl) (Opening.opens_int Try.underlying3) (Opening.opensF_one rfl (by kernel_rfl) (Opening.opens_int Try.underlying3))) enc w spare held fuel cs x hx
structure S47 where
  f0 : Int
  f1 : S23
  f2 : (List Int)
def k47 : Kd S47 := Kd.iso (Kd.pair (Kd.int .i64) (Kd.pair k23 (Kd.slice 5 (Kd.int .u8)))) (fun x : S47 => (x.f0, x.f1, x.f2))
theorem k47_open {w : World} {x : S47} {cs : List Value} (h : k47.K w x cs) : ∃ A3 c3, cs = [.int .i64 x.f0, .int .i64 x.f1.f0, .int .i64 x.f1.f1, .slice A3 x.f2.length c3] ∧ x.f2.length ≤ c3 ∧ (Kd.int .u8).C w A3 x.f2.length x.f2 := by
  obtain ⟨_, _, rfl, rfl, ⟨_, _, rfl, s1, ⟨A3, c3, rfl, l3, g3⟩⟩⟩ := h
  obtain rfl := k23_open s1
  exact ⟨A3, c3, rfl, l3, g3⟩
def wf47 (s : S47) : Prop := ((Lit.int .i64 s.f0).wf = true) ∧ (wf23 s.f1) ∧ ((s.f2.length ≤ maxLen ∧ ∀ y ∈ s.f2, (Lit.int .u8 y).wf = true))
theorem opens47 : Opening.Opens Try.prog 47 k47 wf47 := by
  intro H enc w spare held fuel cs x hx
  exact Opening.opens_struct (f := fun x : S47 => (x.f0, x.f1, x.f2)) (fun p => ⟨p.1, p.2.1, p.2.2⟩) (fun _ => rfl) Try.underlying47 (by kernel_rfl) (Opening.opensF_cons rfl (by kernel_rfl) (Opening.opens_int Try.underlying3) (Opening.opensF_cons rfl (by kernel_rfl) opens23 (Opening.opensF_one rfl (by kernel_rfl) (Opening.opens_slice Try.underlying45 (by kernel_rfl) (Opening.opens_int Try.underlying5))))) enc w spare held fuel cs x hx
set_option maxRecDepth 100000 in
theorem lifted (os : Os) (started : os.Started) (H : Type) (enc : TypeId × Value → H) :
    ReturnsInHanded {} Try.checked os 7 .any (Rows.requestSmallSpec.pre6 enc Try.prog Try.f7 Rows.requestSmallRow.domain false) (Rows.requestSmallSpec.post enc Try.prog Try.f7 false true false false) := by
  refine returnsInHanded_of_change (C := Try.checked) own started (by kernel_rfl) Try.func7
    (ChangeSpec.witness6 (enc := enc) (C := Try.checked) false ⟨#[], #[.agg #[.int .i64 0, .int .i64 0, .int .i64 0, .int .i64 0, .int .i64 0], .agg #[.int .i64 0, .int .i64 0, .int .i64 0, .slice none 0 0]], []⟩ 8 (by kernel_rfl) (by kernel_rfl) (by kernel_rfl) (by kernel_rfl)) ?_
  intro W base args ds gs before hval0 hW hcnd _
  have hval : ∀ (j : Nat) t v, Try.f7.params[j]? = some t → args[j]? = some v → Value.okWide Try.prog W .any base t v := hval0
  have hW' := hW
  obtain ⟨p, q, hA0, hV, rfl, hfz, hnd⟩ := hW
  have hA : DataW.TrodAll enc Try.prog W 0 (fun _ => true) true Try.f7.params.toList args.toList ds p := hA0
  rw [Try.params7] at hA hval
  obtain ⟨v0, vs0, d0, ds0, p0, q0, hargs, rfl, rfl, h0, r0⟩ := trodAll_cons hA
  obtain ⟨v1, vs1, d1, ds1, p1, q1, rfl, rfl, rfl, h1, r1⟩ := trodAll_cons r0
  obtain ⟨rfl, rfl, rfl⟩ := trodAll_nil r1
  obtain rfl : args = #[v0, v1] := by cases args; simp_all
  obtain ⟨rfl, rfl⟩ := trodVars_none hV
  have k0 := h0
  have lt0 : ∀ x ∈ p0, x.block < W.heap.size := by obtain ⟨m, hm⟩ := k0; exact DataW.trod_lt m _ _ _ hm
  obtain ⟨s0, cs0, rfl, hk0, hw0⟩ := Opening.arg_struct Try.underlying44 opens44 (hval 0 44 v0 rfl rfl) h0
  obtain rfl := k44_open hk0
  have k1 := h1
  have lt1 : ∀ x ∈ p1, x.block < W.heap.size := by obtain ⟨m, hm⟩ := k1; exact DataW.trod_lt m _ _ _ hm
  obtain ⟨s1, cs1, rfl, hk1, hw1⟩ := Opening.arg_struct Try.underlying47 opens47 (hval 1 47 v1 rfl rfl) h1
  obtain ⟨A1_3, c1_3, rfl, hc1_3, hr1_3⟩ := k47_open hk1
  clear hA0 hval0
  obtain ⟨f0, f1, f2, f3, f4⟩ := s0
  obtain ⟨g0, ⟨g1, g2⟩, g3⟩ := s1
  refine (twainlaw28_RequestSmall.calls 300 f0 f1 f2 f3 f4 g0 g1 g2 A1_3 c1_3 g3 true W hr1_3 hc1_3 (RequestPure.RequestSmall f0 f1 f2 f3 f4 g0 g1 g2 g3)).mono fun e W' ⟨he, bel⟩ => ?_
  subst he
  exact ⟨_, rfl, _, _, _, [], _, [], hW', trodAll_mk1 (shut_bool Try.underlying4 _), (trodAll_cons_mk (Below.trod laidOut (by kernel_rfl) (of_decide_eq_true (by kernel_rfl)) k0 bel lt0) (trodAll_cons_mk (Below.trod laidOut (by kernel_rfl) (of_decide_eq_true (by kernel_rfl)) k1 bel lt1) trodAll_mk0)), rfl, bel.frame _, fun h => by cases h⟩
theorem over : Rows.requestSmallRow.holds Try.pinned (OpenSpec.ofChange Rows.requestSmallSpec) :=
  OpenClaim.holds_of_wide 7 Try.f7 rfl rfl rfl rfl rfl rfl rfl ⟨rfl, rfl, rfl, rfl, rfl⟩ rfl rfl rfl rfl rfl (by kernel_rfl) Try.func7 (by kernel_rfl)
    (of_decide_eq_true (by kernel_rfl)) (by unfold Func.isWrapper; first | (rw [if_pos (by decide +kernel)]; kernel_rfl) | (rw [if_neg (by decide +kernel)]; exact ⟨rfl, rfl⟩))
    (fun os started H enc _ => lifted os started H enc)
end Go.Proofs.Ytajpnohhahffbaa.requestSmall
namespace Go.Proofs.Ytajpnohhahffbaa
theorem requestSmall_holds : Rows.RequestSmallSaid := requestSmall.over
#print axioms requestSmall_holds
end Go.Proofs.Ytajpnohhahffbaa
