/-
  The walks of PlanOver and PlanNone.
-/
import Derived.Test.YteclkapffhjddaaPlanL
import Derived.Test.YteclkapffhjddaaPlanP
namespace Go.Proofs.Yteclkapffhjddaa.PlanW
open Go.RowKit Go.Proofs.Yteclkapffhjddaa Go.Proofs.Yteclkapffhjddaa.Bits Go.Proofs.Yteclkapffhjddaa.BitsPlain Go.Proofs.Yteclkapffhjddaa.BitsPure Go.Proofs.Yteclkapffhjddaa.PlanP Go.Proofs.YteclkapffhjddaaW.PrintWords Go.Proofs.YteclkapffhjddaaW.PrintLast Go.Proofs.YteclkapffhjddaaW.PrintMore
set_option linter.unusedVariables false
set_option maxHeartbeats 1000000 in
theorem over_walk (m : Nat) (hm : m < 2 ^ 64) (A : Option Addr) (cap : Nat) (l : List Int) (w : World) (hr : Kd.C (Kd.int .i64) w A l.length l) (hcap : l.length ≤ cap) :
    Calls Try.prog 8 #[.int .u64 (m : Int), .slice A l.length cap] w fun e w' => e = .returned (.bool true) ∧ Below w.heap.size w w' := by
  have LV := Lib.hid (lives27)
  by_cases h200 : 200 < l.length
  · have h200' : (200 : Int) < (l.length : Int) := by omega
    go_enter Try.func8, Try.ntmps8
    go_wp2_with fail
    refine (LV.out _).mono ?_
    rintro e w' ⟨rfl, hb⟩
    go_wp2_with fail
    go_ret
    exact ⟨rfl, hb⟩
  have h200' : ¬ (200 : Int) < (l.length : Int) := by omega
  have N := Lib.hid (New_c m w)
  have HV := Lib.hid (fun g x n w (hx : x < 2 ^ 64) (h : PlanAt w g m x) => Have_c g m x n w hx h)
  have LF := Lib.hid (fun g x w (h : PlanAt w g m x) => Left_c g m x w h)
  have OV := Lib.hid (fun g x w (h : PlanAt w g m x) => Over_c g m x w h)
  have RL := Lib.hid (fun x (hx : x < 2 ^ 64) => rlist_c x hx)
  have OF := Lib.hid (fun w (h : Kd.C (Kd.int .i64) w A l.length l) => twainref01_Of.calls 300 A cap l _ w h hcap (ref_of_p l (by omega) 300 (by omega)))
  have HR := Lib.hid hr
  have HM := Lib.hid hm
  clear hr hm hcap
  generalize hg : w.heap.size = g at N
  go_enter Try.func8, Try.ntmps8
  go_wp2_with fail
  refine N.out.mono ?_
  rintro e w1 ⟨rfl, hw1⟩
  have hk1 : PlanAt w1 g m m := by rw [← hw1, ← hg]; exact new_at _ _
  have HB1 : Hid (Below g w w1) := Lib.hid (by rw [← hw1, ← hg]; exact bl_all (Below.refl _ w) _)
  clear hw1 N
  go_wp2_with fail
  go_loopw [6, 18] (fun nv iv wr => ∃ (k : Nat) (x n : Nat), k ≤ l.length ∧ nv = .int .i64 n ∧ iv = .int .i64 k ∧ n ≤ k ∧ Inv m x n (l.take k) ∧ PlanAt wr g m x ∧ Below g w wr)
    (fun nv iv _ => l.length - (intOf iv).toNat)
  case atStart => exact ⟨0, m, 0, Nat.zero_le _, rfl, rfl, Nat.le_refl _, inv_nil m HM.out, hk1, HB1.out⟩
  case round =>
    obtain ⟨k, x, n, hk, rfl, rfl, hnk, hI, hK, hB⟩ := hrel
    have HB := Lib.hid hB
    have HK := Lib.hid hK
    have HI := Lib.hid hI
    clear hB hK hI HB1 hk1
    by_cases hlt : k < l.length
    · obtain ⟨ad, rfl, hcell⟩ := (readsInt_of_C (Kd.C_below HR.out (by rw [hg]; exact HB.out))).at_ k (by omega) (by omega)
      have hlt' : (k : Int) < (l.length : Int) := by omega
      rw [Int.toNat_natCast] at hcell
      have hrd : rd l k = l[k] := rd_at l k hlt
      rw [hrd] at hcell
      have HV1 := Lib.hid (fun v (h : PlanAt v g m x) => HV.out g x l[k] v HI.out.1 h)
      have hs := inv_step l[k] HI.out
      rw [show l.take k ++ [l[k]] = l.take (k + 1) by rw [List.take_add_one, List.getElem?_eq_getElem hlt]; rfl] at hs
      generalize l[k] = e at hcell HV1 hs
      generalize withoutN x e = y at HV1 hs
      generalize hasN x e = b at HV1 hs
      have HS := Lib.hid hs
      clear hs hrd
      cases b with
      | true =>
        go_wp2_with fail
        refine (HV1.out _ HK.out).mono ?_
        rintro e w3 ⟨rfl, hp3, ho3⟩
        have HB3 := Lib.hid (ho3.2 _ _ HB.out (Nat.le_refl _))
        have HK3 := Lib.hid hp3
        clear hp3 ho3
        go_wp2_with fail
        go_roundw
        case rel => exact ⟨k + 1, y, n + 1, by omega, by go_num, by go_num, by omega, HS.out, HK3.out, HB3.out⟩
        case measure => simp [intOf]; omega
      | false =>
        go_wp2_with fail
        refine (HV1.out _ HK.out).mono ?_
        rintro e w3 ⟨rfl, hp3, ho3⟩
        have HB3 := Lib.hid (ho3.2 _ _ HB.out (Nat.le_refl _))
        have HK3 := Lib.hid hp3
        clear hp3 ho3
        go_wp2_with fail
        go_roundw
        case rel => exact ⟨k + 1, y, n, by omega, by go_num, by go_num, by omega, HS.out, HK3.out, HB3.out⟩
        case measure => simp [intOf]; omega
    · have hlt' : ¬ (k : Int) < (l.length : Int) := by omega
      have hI := HI.out
      rw [List.take_of_length_le (by omega)] at hI
      obtain ⟨hx, hn⟩ := inv_end HM.out hI
      have hX := hI.1
      have hT : ofN l < 2 ^ 64 := ofN_lt l 0 (by omega)
      have hA : Go.bits .andNot .u64 (m : Int) ((ofN l : Nat) : Int) = (x : Int) := by
        rw [u64_andNot_nat _ _ HM.out hT, show 18446744073709551615 = 2 ^ 64 - 1 by rfl, ← hx]
      have hAn : Go.bits .and .u64 (m : Int) ((ofN l : Nat) : Int) = ((m &&& ofN l : Nat) : Int) := u64_and_nat _ _ HM.out hT
      have hL : n = (intsN (list (m &&& ofN l))).length := by rw [hn]; unfold intsN; rw [List.length_map, list_length]
      have hRL := RL.out (m &&& ofN l) (Nat.lt_of_le_of_lt Nat.and_le_left HM.out)
      generalize m &&& ofN l = q at hAn hL hRL
      generalize intsN (list q) = M at hL hRL
      subst hL
      have RLq := Lib.hid hRL
      generalize ofN l = t at OF hA hAn
      clear hRL hI hx hn hX hT hnk HI
      go_wp2_with fail
      refine (OF.out _ (Kd.C_below HR.out (by rw [hg]; exact HB.out))).mono ?_
      rintro e w3 ⟨rfl, n3, hw3⟩
      have HK3 : Hid (PlanAt w3 g m x) := Lib.hid (by rw [hw3]; exact HK.out)
      have HB3 : Hid (Below g w w3) := Lib.hid (by rw [hw3]; exact bl_drew HB.out _)
      clear hw3 HK HB
      go_wp2_with fail
      refine (OV.out g x _ HK3.out).mono ?_
      rintro e w4 ⟨rfl, rfl⟩
      go_wp2_with fail
      refine (LF.out g x _ HK3.out).mono ?_
      rintro e w4 ⟨rfl, rfl⟩
      go_wp2_with fail
      refine (RLq.out _).mono ?_
      rintro e w5 ⟨v, rfl, hr, hb⟩
      obtain ⟨A1, c1, rfl, hc1, hkr⟩ := Kd.R_reads hr
      have HB5 := Lib.hid (bl_to HB3.out hb (by have := lt_at HK3.out; omega))
      have hs5 : Hid (g ≤ w5.heap.size) := Lib.hid (by have := lt_at HK3.out; have := hb.size; omega)
      clear hr hb hkr
      go_wp2_with fail
      refine (LV.out _).mono ?_
      rintro e w6 ⟨rfl, hb6⟩
      go_wp2_with fail
      go_ret
      exact ⟨rfl, bl_to HB5.out hb6 hs5.out⟩
/-- a plan that no call made: nil, or a zero one -/
def NoAt (w : World) (v : Value) : Prop := v = .pointer none ∨ ∃ g, v = .pointer (some ⟨g, 0, none⟩) ∧ w.cell? ⟨g, 0, none⟩ = some (.bool false)
theorem is_no (v : Value) (w : World) (h : NoAt w v) : Calls Try.prog 49 #[v] w fun e w' => e = .returned (.bool false) ∧ w = w' := by
  rcases h with rfl | ⟨g, rfl, h⟩
  · exact is_nil w
  · exact is_none g w h
theorem Left_no (v : Value) (w : World) (h : NoAt w v) : Calls Try.prog 34 #[v] w fun e w' => e = .returned (.int .u64 0) ∧ w = w' := by
  have D := Lib.hid (is_no v w h)
  clear h
  go_enter Try.func34, Try.ntmps34
  go_wp2_with fail
  refine D.out.mono ?_
  rintro e w' ⟨rfl, rfl⟩
  go_wp2_with fail
  go_ret
  exact ⟨rfl, rfl⟩
theorem Over_no (v : Value) (w : World) (h : NoAt w v) : Calls Try.prog 35 #[v] w fun e w' => e = .returned (.bool true) ∧ w = w' := by
  have D := Lib.hid (Left_no v w h)
  clear h
  go_enter Try.func35, Try.ntmps35
  go_wp2_with fail
  refine D.out.mono ?_
  rintro e w' ⟨rfl, rfl⟩
  go_wp2_with fail
  go_ret
  exact ⟨rfl, rfl⟩
theorem All_no (v : Value) (w : World) (h : NoAt w v) : Calls Try.prog 36 #[v] w fun e w' => e = .returned (.slice none 0 0) ∧ w = w' := by
  have D := Lib.hid (is_no v w h)
  clear h
  go_enter Try.func36, Try.ntmps36
  go_wp2_with fail
  refine D.out.mono ?_
  rintro e w' ⟨rfl, rfl⟩
  go_wp2_with fail
  go_ret
  exact ⟨rfl, rfl⟩
theorem turn_no (v : Value) (n : Int) (w : World) (h : NoAt w v) : Calls Try.prog 47 #[v, .int .i64 n, .func (.func 48) #[] #[]] w fun e w' => e = .returned (.bool false) ∧ Drawn0 w w' := by
  have D := Lib.hid (Left_no v w h)
  have hh : hasN 0 n = false := by unfold hasN; simp
  have D2 := Lib.hid (has_c 0 n (by omega))
  rw [hh, show ((0 : Nat) : Int) = 0 from rfl] at D2
  clear h hh
  go_enter Try.func47, Try.ntmps47
  go_wp2_with fail
  refine D.out.mono ?_
  rintro e w' ⟨rfl, rfl⟩
  go_wp2_with fail
  refine (D2.out _).mono ?_
  rintro e w' ⟨rfl, nd, rfl⟩
  go_wp2_with fail
  go_ret
  exact ⟨rfl, nd, rfl⟩
theorem Have_no (v : Value) (n : Int) (w : World) (h : NoAt w v) : Calls Try.prog 32 #[v, .int .i64 n] w fun e w' => e = .returned (.bool false) ∧ Drawn0 w w' := by
  have D := Lib.hid (turn_no v n w h)
  clear h
  go_enter Try.func32, Try.ntmps32
  go_wp2_with fail
  refine D.out.mono ?_
  rintro e w' ⟨rfl, nd, rfl⟩
  go_wp2_with fail
  go_ret
  exact ⟨rfl, nd, rfl⟩
theorem none_walk (n : Int) (w : World) : Calls Try.prog 9 #[.int .i64 n] w fun e w' => e = .returned (.bool true) ∧ Below w.heap.size w w' := by
  have LV := Lib.hid (lives27)
  have HH := Lib.hid (fun v w h => Have_no v n w h)
  have OO := Lib.hid Over_no
  have LL := Lib.hid Left_no
  have AA := Lib.hid All_no
  go_enter Try.func9, Try.ntmps9
  go_wp2_with fail
  go_loopw [11] (fun i wr => ∃ (k : Nat), k ≤ 2 ∧ i = .int .i64 k ∧
      wr.heap[w.heap.size]? = some (.cells #[.bool false, .int .u64 0, .int .u64 0] 48 (0, 0)) ∧ wr.heap[w.heap.size + 1]? = some (.cells #[.pointer none, .pointer (some ⟨w.heap.size, 0, none⟩)] 38 (0, 0)) ∧ Below w.heap.size w wr)
    (fun i _ => 2 - (intOf i).toNat)
  case atStart =>
    exact ⟨0, Nat.zero_le _, rfl, old_at (new_at _ _) _, new_at1 _ _ _, ((Below.refl _ w).alloc (Nat.le_refl _) _).alloc (by simp) _⟩
  case round =>
    obtain ⟨k, hk, rfl, hb, hb2, hB⟩ := hrel
    have HB := Lib.hid hb
    have HB2 := Lib.hid hb2
    have HBB := Lib.hid hB
    clear hb hb2 hB
    by_cases hlt : k < 2
    · have hlt' : (k : Int) < 2 := by omega
      obtain ⟨v, hv, hn⟩ : ∃ v, wr.cell? ⟨w.heap.size + 1, k, none⟩ = some v ∧ NoAt wr v := by
        rcases (show k = 0 ∨ k = 1 by omega) with rfl | rfl
        · exact ⟨_, blk_cell HB2.out 0, Or.inl rfl⟩
        · exact ⟨_, blk_cell HB2.out 1, Or.inr ⟨_, rfl, blk_cell HB.out 0⟩⟩
      have HN := Lib.hid hn
      clear hn
      go_wp2_with fail
      refine (HH.out _ _ HN.out).mono ?_
      rintro e w' ⟨rfl, nd, rfl⟩
      have HN2 : Hid (NoAt (wr.drewN nd) v) := Lib.hid HN.out
      go_wp2_with fail
      refine (OO.out _ _ HN2.out).mono ?_
      rintro e w' ⟨rfl, rfl⟩
      go_wp2_with fail
      refine (LL.out _ _ HN2.out).mono ?_
      rintro e w' ⟨rfl, rfl⟩
      go_wp2_with fail
      refine (AA.out _ _ HN2.out).mono ?_
      rintro e w' ⟨rfl, rfl⟩
      go_wp2_with fail
      go_roundw
      case rel => exact ⟨k + 1, by omega, by go_num, HB.out, HB2.out, bl_drew HBB.out _⟩
      case measure => simp [intOf]; omega
    · have hlt' : ¬ (k : Int) < 2 := by omega
      go_wp2_with fail
      refine (LV.out _).mono ?_
      rintro e w' ⟨rfl, hb3⟩
      go_wp2_with fail
      go_ret
      exact ⟨rfl, bl_then HBB.out hb3⟩
end Go.Proofs.Yteclkapffhjddaa.PlanW
