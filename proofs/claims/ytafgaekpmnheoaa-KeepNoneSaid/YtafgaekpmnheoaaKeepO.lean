/-
  The walk of KeepNone.
-/
import Derived.Test.YtafgaekpmnheoaaKeepT
namespace Go.Proofs.Ytafgaekpmnheoaa
open Go.RowKit Go.Proofs.YtafgaekpmnheoaaW.PrintWords Go.Proofs.YtafgaekpmnheoaaW.PrintMore
set_option linter.unusedVariables false
/-- a Keep that no call made: nil, or a zero one -/
def NoAt (w : World) (v : Value) : Prop := v = .pointer none ∨ ∃ g, v = .pointer (some ⟨g, 0, none⟩) ∧ w.cell? ⟨g, 0, none⟩ = some (.int .i64 0)
theorem is_no (v : Value) (w : World) (h : NoAt w v) : Calls Try.prog 50 #[v] w fun e w' => e = .returned (.bool false) ∧ w = w' := by
  rcases h with rfl | ⟨g, rfl, h⟩
  · exact kis_nil w
  · exact kis_none g w h
theorem turn_no (v : Value) (f : FuncId) (w : World) (h : NoAt w v) : Calls Try.prog 47 #[v, .func (.func f) #[] #[]] w fun e w' => e = .returned (.tuple #[]) ∧ w = w' := by
  have D := Lib.hid (is_no v w h)
  clear h
  go_enter Try.func47, Try.ntmps47
  go_wp2_with fail
  refine D.out.mono ?_
  rintro e w' ⟨rfl, rfl⟩
  go_wp2_with fail
  go_end0
  exact ⟨rfl, rfl⟩
theorem Tick_no (v : Value) (w : World) (h : NoAt w v) : Calls Try.prog 23 #[v] w fun e w' => e = .returned (.tuple #[]) ∧ w = w' := by
  have D := Lib.hid (turn_no v 48 w h)
  clear h
  go_enter Try.func23, Try.ntmps23
  go_wp2_with fail
  refine D.out.mono ?_
  rintro e w' ⟨rfl, rfl⟩
  go_wp2_with fail
  go_end0
  exact ⟨rfl, rfl⟩
theorem Heard_no (v : Value) (w : World) (h : NoAt w v) : Calls Try.prog 25 #[v] w fun e w' => e = .returned (.tuple #[]) ∧ w = w' := by
  have D := Lib.hid (turn_no v 49 w h)
  clear h
  go_enter Try.func25, Try.ntmps25
  go_wp2_with fail
  refine D.out.mono ?_
  rintro e w' ⟨rfl, rfl⟩
  go_wp2_with fail
  go_end0
  exact ⟨rfl, rfl⟩
theorem Age_no (v : Value) (w : World) (h : NoAt w v) : Calls Try.prog 26 #[v] w fun e w' => e = .returned (.int .i64 0) ∧ w = w' := by
  have D := Lib.hid (is_no v w h)
  clear h
  go_enter Try.func26, Try.ntmps26
  go_wp2_with fail
  refine D.out.mono ?_
  rintro e w' ⟨rfl, rfl⟩
  go_wp2_with fail
  go_ret
  exact ⟨rfl, rfl⟩
theorem Alive_no (v : Value) (w : World) (h : NoAt w v) : Calls Try.prog 27 #[v] w fun e w' => e = .returned (.bool false) ∧ Drawn0 w w' := by
  have D := Lib.hid (fun n => Calls.quiet_of (w := w) (n := n) ((is_no v (w.drewN n) h).mono fun e w' ⟨he, hw⟩ => ⟨he, 0, hw.symm⟩))
  clear h
  go_enter Try.func27, Try.ntmps27
  go_wp2_with fail
  go_quiet ((go_at_call 50; exact D.out _))
  go_wp2_with fail
  go_ret
  exact ⟨rfl, _, rfl⟩
theorem knone_walk (A : Option Addr) (cap : Nat) (l : List Bool) (w : World) (hr : Kd.C Kd.bool w A l.length l) :
    Calls Try.prog 8 #[.slice A l.length cap] w fun e w' => e = .returned (.bool true) ∧ Below w.heap.size w w' := by
  have LV := Lib.hid (lives21)
  have HR := Lib.hid hr
  clear hr
  by_cases h300 : 300 < l.length
  · have h300' : (300 : Int) < (l.length : Int) := by omega
    go_enter Try.func8, Try.ntmps8
    go_wp2_with fail
    refine (LV.out _).mono ?_
    rintro e w' ⟨rfl, hb⟩
    go_wp2_with fail
    go_ret
    exact ⟨rfl, hb⟩
  have h300' : ¬ (300 : Int) < (l.length : Int) := by omega
  have HH := Lib.hid Heard_no
  have TT := Lib.hid Tick_no
  have AA := Lib.hid Alive_no
  have GG := Lib.hid Age_no
  go_enter Try.func8, Try.ntmps8
  go_wp2_with fail
  go_loopw [16] (fun i wr => ∃ (k : Nat), k ≤ 2 ∧ i = .int .i64 k ∧
      wr.heap[w.heap.size]? = some (.cells #[.int .i64 0, .int .i64 0] 47 (0, 0)) ∧ wr.heap[w.heap.size + 1]? = some (.cells #[.pointer none, .pointer (some ⟨w.heap.size, 0, none⟩)] 36 (0, 0)) ∧ Below w.heap.size w wr)
    (fun i _ => 2 - (intOf i).toNat)
  case atStart =>
    exact ⟨0, Nat.zero_le _, rfl, old_at (new_at _ _) _, new_at1 _ _ _, ((Below.refl _ w).alloc (Nat.le_refl _) _).alloc (by simp) _⟩
  case round =>
    obtain ⟨k, hk, rfl, hb, hb2, hB⟩ := hrel
    have HB := Lib.hid hb
    have HB2 := Lib.hid hb2
    have HBB := Lib.hid hB
    clear hb hb2 hB
    by_cases hlt : k < 2
    · have hlt' : (k : Int) < 2 := by omega
      obtain ⟨v, hv, hn⟩ : ∃ v, wr.cell? ⟨w.heap.size + 1, k, none⟩ = some v ∧ NoAt wr v := by
        rcases (show k = 0 ∨ k = 1 by omega) with rfl | rfl
        · exact ⟨_, blk_cell HB2.out 0, Or.inl rfl⟩
        · exact ⟨_, blk_cell HB2.out 1, Or.inr ⟨_, rfl, blk_cell HB.out 0⟩⟩
      have HN := Lib.hid hn
      clear hn
      go_wp2_with fail
      refine (HH.out _ _ HN.out).mono ?_
      rintro e w' ⟨rfl, rfl⟩
      go_wp2_with fail
      go_loopw [24] (fun i w2 => ∃ (m : Nat), m ≤ l.length ∧ i = .int .i64 m ∧ w2 = wr) (fun i _ => l.length - (intOf i).toNat)
      case atStart => exact ⟨0, Nat.zero_le _, rfl, rfl⟩
      case round =>
        obtain ⟨m, hm, rfl, rfl⟩ := hrel
        by_cases hlm : m < l.length
        · have hlm' : (m : Int) < (l.length : Int) := by omega
          obtain ⟨ad, rfl, hcell⟩ := at_bool (Kd.C_below HR.out HBB.out) m hlm
          generalize hx : l.getD m false = x at hcell
          clear hx
          cases x with
          | true =>
            go_wp2_with fail
            refine (TT.out _ _ HN.out).mono ?_
            rintro e w' ⟨rfl, rfl⟩
            go_wp2_with fail
            go_roundw
            case rel => exact ⟨m + 1, by omega, by go_num, trivial⟩
            case measure => simp [intOf]; omega
          | false =>
            go_wp2_with fail
            go_roundw
            case rel => exact ⟨m + 1, by omega, by go_num, trivial⟩
            case measure => simp [intOf]; omega
        · have hlm' : ¬ (m : Int) < (l.length : Int) := by omega
          go_wp2_with fail
          refine (TT.out _ _ HN.out).mono ?_
          rintro e w' ⟨rfl, rfl⟩
          go_wp2_with fail
          refine (AA.out _ _ HN.out).mono ?_
          rintro e w' ⟨rfl, n1, rfl⟩
          go_wp2_with fail
          refine (GG.out _ _ (show NoAt (World.drewN _ n1) _ from HN.out)).mono ?_
          rintro e w' ⟨rfl, rfl⟩
          go_wp2_with fail
          go_roundw
          case rel => exact ⟨k + 1, by omega, by go_num, HB.out, HB2.out, bl_drew HBB.out _⟩
          case measure => simp [intOf]; omega
    · have hlt' : ¬ (k : Int) < 2 := by omega
      go_wp2_with fail
      refine (LV.out _).mono ?_
      rintro e w' ⟨rfl, hb3⟩
      go_wp2_with fail
      go_ret
      exact ⟨rfl, bl_then HBB.out hb3⟩
end Go.Proofs.Ytafgaekpmnheoaa
