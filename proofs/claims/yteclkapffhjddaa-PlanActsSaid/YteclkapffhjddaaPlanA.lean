/-
  The walk of PlanActs.
-/
import Derived.Test.YteclkapffhjddaaPlanL
namespace Go.Proofs.Yteclkapffhjddaa.PlanW
open Go.RowKit Go.Proofs.Yteclkapffhjddaa Go.Proofs.Yteclkapffhjddaa.Bits Go.Proofs.Yteclkapffhjddaa.BitsPlain Go.Proofs.Yteclkapffhjddaa.BitsPure Go.Proofs.YteclkapffhjddaaW.PrintWords Go.Proofs.YteclkapffhjddaaW.PrintLast Go.Proofs.YteclkapffhjddaaW.PrintMore
set_option linter.unusedVariables false
set_option maxHeartbeats 16000000 in
theorem acts_walk (m : Nat) (hm : m < 2 ^ 64) (A : Option Addr) (cap : Nat) (l : List Int) (w : World) (hr : Kd.C (Kd.int .i64) w A l.length l) :
    Calls Try.prog 7 #[.int .u64 (m : Int), .slice A l.length cap] w fun e w' => e = .returned (.bool true) ∧ Below w.heap.size w w' := by
  have LV := Lib.hid (lives27)
  by_cases h200 : 200 < l.length
  · have h200' : (200 : Int) < (l.length : Int) := by omega
    go_enter Try.func7, Try.ntmps7
    go_wp2_with fail
    refine (LV.out _).mono ?_
    rintro e w' ⟨rfl, hb⟩
    go_wp2_with fail
    go_ret
    exact ⟨rfl, hb⟩
  have h200' : ¬ (200 : Int) < (l.length : Int) := by omega
  have N := Lib.hid (New_c m w)
  have HV := Lib.hid (fun g x n w (hx : x < 2 ^ 64) (h : PlanAt w g m x) => Have_c g m x n w hx h)
  have RH := Lib.hid (fun g x n w (hx : x < 2 ^ 64) (h : RPlanAt w g m x) => RHave_c g m x n w hx h)
  have LF := Lib.hid (fun g x w (h : PlanAt w g m x) => Left_c g m x w h)
  have OV := Lib.hid (fun g x w (h : PlanAt w g m x) => Over_c g m x w h)
  have AL := Lib.hid (fun g x w (h : PlanAt w g m x) => All_c g m x w hm h)
  have RL := Lib.hid (rlist_c m hm)
  have IN := Lib.hid (fun A c A' c' w (h : Kd.C (Kd.int .i64) w A (intsN (list m)).length (intsN (list m))) (hc : (intsN (list m)).length ≤ c) (h' : Kd.C (Kd.int .i64) w A' (intsN (list m)).length (intsN (list m))) (hc' : (intsN (list m)).length ≤ c') =>
    twainref01_Ints.calls 200 A c (intsN (list m)) A' c' (intsN (list m)) true w h hc h' hc' (ints_p _ (by have := listTo_length m 64; rw [listTo_all] at this; unfold intsN; rw [List.length_map]; omega) 200 (by have := listTo_length m 64; rw [listTo_all] at this; unfold intsN; rw [List.length_map]; omega)))
  have HR := Lib.hid hr
  clear hr
  generalize intsN (list m) = M at AL RL IN
  generalize hg : w.heap.size = g at N
  go_enter Try.func7, Try.ntmps7
  go_wp2_with fail
  refine N.out.mono ?_
  rintro e w1 ⟨rfl, hw1⟩
  have hk1 : PlanAt w1 g m m := by rw [← hw1, ← hg]; exact new_at _ _
  have HB1 : Hid (Below g w w1) := Lib.hid (by rw [← hw1, ← hg]; exact bl_all (Below.refl _ w) _)
  have hs1 : w1.heap.size = g + 1 := by rw [← hw1, ← hg]; simp
  clear hw1 N
  go_wp2_with fail
  generalize hw2 : w1.alloc (.cells #[.int .u64 (m : Int), .int .u64 (m : Int)] 42) = w2
  have hk2 : PlanAt w2 g m m := by rw [← hw2]; exact old_at hk1 _
  have hr2 : RPlanAt w2 (g + 1) m m := by have := new_at w1 (.cells #[.int .u64 (m : Int), .int .u64 (m : Int)] 42); rw [hs1] at this; rw [← hw2]; exact this
  have HB2 : Hid (Below g w w2) := Lib.hid (by rw [← hw2]; exact HB1.out.alloc (by omega) _)
  try rw [hs1]
  clear hw2 hk1 HB1 hs1
  go_loopw [21] (fun i wr => ∃ (k : Nat) (x : Nat), k ≤ l.length ∧ i = .int .i64 k ∧ x < 2 ^ 64 ∧ PlanAt wr g m x ∧ RPlanAt wr (g + 1) m x ∧ Below g w wr)
    (fun i _ => l.length - (intOf i).toNat)
  case atStart => exact ⟨0, m, Nat.zero_le _, rfl, hm, hk2, hr2, HB2.out⟩
  case round =>
    obtain ⟨k, x, hk, rfl, hx, hK, hRK, hB⟩ := hrel
    have HB := Lib.hid hB
    have HK := Lib.hid hK
    have HRK := Lib.hid hRK
    clear hB hK hRK HB2 hk2 hr2
    by_cases hlt : k < l.length
    · obtain ⟨ad, rfl, hcell⟩ := (readsInt_of_C (Kd.C_below HR.out (by rw [hg]; exact HB.out))).at_ k (by omega) (by omega)
      have hlt' : (k : Int) < (l.length : Int) := by omega
      rw [Int.toNat_natCast] at hcell
      generalize rd l k = n at hcell
      have HX := Lib.hid hx
      have HV1 := Lib.hid (fun v (h : PlanAt v g m x) => HV.out g x n v hx h)
      have RH1 := Lib.hid (fun v (h : RPlanAt v (g + 1) m x) => RH.out (g + 1) x n v hx h)
      have hy := withoutN_lt x n hx
      generalize hasN x n = b at HV1 RH1
      generalize withoutN x n = y at HV1 RH1 hy
      have HY := Lib.hid hy
      clear hx hy
      go_wp2_with fail
      go_region_with (first
        | (go_at_call 32; refine (HV1.out _ ?_).mono ?_; exact HK.out; rintro e w3 ⟨rfl, hp3, ho3⟩; have hr3 : RPlanAt w3 (g + 1) m x := (ho3.1 _ (by omega)).trans HRK.out; have hb3 : Below g w w3 := ho3.2 _ _ (bl_drew HB.out 1) (Nat.le_refl _))
        | (go_at_call 33; refine (RH1.out _ ?_).mono ?_; assumption; rintro e w4 ⟨rfl, hr4, ho4⟩; have hp4 : PlanAt w4 g m y := (ho4.1 _ (by omega)).trans hp3; have hb4 : Below g w w4 := ho4.2 _ _ hb3 (by omega); have hc4 : w4.cell? ⟨g + 1, 1, none⟩ = some (.int .u64 (y : Int)) := blk_cell hr4 1)
        | (go_at_call 34; refine (LF.out _ y _ ?_).mono ?_; assumption; rintro e w5 ⟨rfl, rfl⟩)
        | (go_at_call 35; refine (OV.out _ y _ ?_).mono ?_; assumption; rintro e w5 ⟨rfl, rfl⟩))
      all_goals
        go_wp2_with fail
        go_roundw
        case rel => exact ⟨k + 1, y, by omega, by go_num, HY.out, hp4, hr4, hb4⟩
        case measure => simp [intOf]; omega
    · have hlt' : ¬ (k : Int) < (l.length : Int) := by omega
      have hlk := lt_at HK.out
      clear HRK hk hx
      go_wp2_with fail
      refine (AL.out g x _ HK.out).mono ?_
      rintro e w3 ⟨v1, rfl, hr1, hb1⟩
      obtain ⟨A1, c1, rfl, hc1, hk1⟩ := Kd.R_reads hr1
      have HK1 := Lib.hid hk1
      have HB3 := Lib.hid (bl_to HB.out hb1 (by omega))
      have hs3 : g < w3.heap.size := by have := hb1.size; omega
      clear hr1 hk1 hb1 HK HB
      go_wp2_with fail
      refine (RL.out _).mono ?_
      rintro e w4 ⟨v2, rfl, hr2, hb2⟩
      obtain ⟨A2, c2, rfl, hc2, hk2⟩ := Kd.R_reads hr2
      have HK2 := Lib.hid hk2
      have HK3 := Lib.hid (Kd.C_below HK1.out hb2)
      have HB4 := Lib.hid (bl_to HB3.out hb2 (by omega))
      have hs4 : g < w4.heap.size := by have := hb2.size; omega
      clear hr2 hk2 hb2 HK1 HB3
      go_wp2_with fail
      refine (IN.out _ _ _ _ _ HK3.out hc1 HK2.out hc2).mono ?_
      rintro e w5 ⟨rfl, n5, hw5⟩
      have HB5 : Hid (Below g w w5) := Lib.hid (by rw [hw5]; exact bl_drew HB4.out _)
      have hs5 : g < w5.heap.size := by rw [hw5]; exact hs4
      clear hw5 HK2 HK3 HB4
      go_wp2_with fail
      refine (LV.out _).mono ?_
      rintro e w6 ⟨rfl, hb6⟩
      go_wp2_with fail
      go_ret
      exact ⟨rfl, bl_to HB5.out hb6 (by omega)⟩
end Go.Proofs.Yteclkapffhjddaa.PlanW
