/-
  The walks of KeepWaits and KeepNone.
-/
import Derived.Test.YtafgaekpmnheoaaKeepT
namespace Go.Proofs.Ytafgaekpmnheoaa
open Go.RowKit Go.Proofs.YtafgaekpmnheoaaW.PrintWords Go.Proofs.YtafgaekpmnheoaaW.PrintMore
set_option linter.unusedVariables false
theorem waits_walk (p : Int) (A : Option Addr) (cap : Nat) (l : List Bool) (w : World) (hr : Kd.C Kd.bool w A l.length l) :
    Calls Try.prog 7 #[.int .i64 p, .slice A l.length cap] w fun e w' => e = .returned (.bool true) ∧ Below w.heap.size w w' := by
  have LV := Lib.hid (lives21)
  by_cases hp : 1 ≤ p ∧ p ≤ 100
  · obtain ⟨hp1, hp2⟩ := hp
    have N := Lib.hid (New_yes p w hp1 hp2)
    have T := Lib.hid (fun g a w (h0 : 0 ≤ a) (h1 : a ≤ p) (h : KeepAt w g p a) => Tick_o g p a w hp1 hp2 h0 h1 h)
    have H := Lib.hid (fun g a w (h0 : 0 ≤ a) (h1 : a ≤ p) (h : KeepAt w g p a) => Heard_o g p a w hp1 hp2 h0 h1 h)
    have AL := Lib.hid (fun g a w (h : KeepAt w g p a) => Alive_any g p a w hp1 h)
    have HR := Lib.hid hr
    clear hr
    generalize hg : w.heap.size = g at N
    by_cases h300 : 300 < l.length
    · have h300' : (300 : Int) < (l.length : Int) := by omega
      go_enter Try.func7, Try.ntmps7
      go_wp2_with fail
      refine N.out.mono ?_
      rintro e w1 ⟨rfl, hw1⟩
      have hk1 : KeepAt w1 g p 0 := by rw [← hw1, ← hg]; exact new_at _ _
      have HB1 : Hid (Below g w w1) := Lib.hid (by rw [← hw1, ← hg]; exact bl_all (Below.refl _ w) _)
      clear hw1 N
      go_wp2_with fail
      refine (LV.out _).mono ?_
      rintro e w' ⟨rfl, hb⟩
      go_wp2_with fail
      go_ret
      exact ⟨rfl, bl_then' HB1.out hb (by have := lt_at hk1; omega)⟩
    have h300' : ¬ (300 : Int) < (l.length : Int) := by omega
    have h300b : decide ((300 : Int) < (l.length : Int)) = false := decide_eq_false h300'
    go_enter Try.func7, Try.ntmps7
    go_wp2_with fail
    refine N.out.mono ?_
    rintro e w1 ⟨rfl, hw1⟩
    have hk1 : KeepAt w1 g p 0 := by rw [← hw1, ← hg]; exact new_at _ _
    have HB1 : Hid (Below g w w1) := Lib.hid (by rw [← hw1, ← hg]; exact bl_all (Below.refl _ w) _)
    clear hw1 N
    go_wp2_with fail
    go_loopw [26] (fun i wr => ∃ (k : Nat) (a : Int), k ≤ l.length ∧ i = .int .i64 k ∧ 0 ≤ a ∧ a ≤ p ∧ KeepAt wr g p a ∧ Below g w wr)
      (fun i _ => l.length - (intOf i).toNat)
    case atStart => exact ⟨0, 0, Nat.zero_le _, rfl, by omega, by omega, hk1, HB1.out⟩
    case round =>
      obtain ⟨k, a, hk, rfl, ha0, ha1, hK, hB⟩ := hrel
      have HB := Lib.hid hB
      have HK := Lib.hid hK
      clear hB hK HB1 hk1
      by_cases hlt : k < l.length
      · obtain ⟨ad, rfl, hcell⟩ := at_bool (Kd.C_below HR.out (by rw [hg]; exact HB.out)) k hlt
        have hlt' : (k : Int) < (l.length : Int) := by omega
        generalize hx : l.getD k false = x at hcell
        clear hx
        cases x with
        | true =>
          go_wp2_with fail
          refine (T.out _ _ _ ha0 ha1 HK.out).mono ?_
          rintro e w3 ⟨rfl, hk3, ho3⟩
          have HK3 := Lib.hid hk3
          have HB3 := Lib.hid (ho3.2 _ _ HB.out (Nat.le_refl _))
          clear hk3 ho3 HK HB
          have hb' : 0 ≤ tickB p a ∧ tickB p a ≤ p := by unfold tickB; split <;> omega
          obtain ⟨b, hb⟩ : ∃ b, tickB p a = b := ⟨_, rfl⟩
          rw [hb] at HK3 hb'
          clear hb
          go_wp2_with fail
          go_roundw
          case rel => exact ⟨k + 1, b, by omega, by go_num, hb'.1, hb'.2, HK3.out, HB3.out⟩
          case measure => simp [intOf]; omega
        | false =>
          go_wp2_with fail
          refine (H.out _ _ _ ha0 ha1 HK.out).mono ?_
          rintro e w3 ⟨rfl, hk3, ho3⟩
          have HK3 := Lib.hid hk3
          have HB3 := Lib.hid (ho3.2 _ _ HB.out (Nat.le_refl _))
          clear hk3 ho3 HK HB
          go_wp2_with fail
          go_roundw
          case rel => exact ⟨k + 1, 0, by omega, by go_num, by omega, by omega, HK3.out, HB3.out⟩
          case measure => simp [intOf]; omega
      · have hlt' : ¬ (k : Int) < (l.length : Int) := by omega
        go_wp2_with fail
        refine (H.out _ _ _ ha0 ha1 HK.out).mono ?_
        rintro e w3 ⟨rfl, hk3, ho3⟩
        have HB3 := Lib.hid (ho3.2 _ _ HB.out (Nat.le_refl _))
        clear ho3 HK HB
        go_wp2_with fail
        go_loopw [9] (fun i wr => ∃ (n : Int), 1 ≤ n ∧ n ≤ p ∧ i = .int .i64 n ∧ KeepAt wr g p (n - 1) ∧ Below g w wr)
          (fun i _ => (p - intOf i).toNat)
        case atStart => exact ⟨1, by omega, by omega, rfl, hk3, HB3.out⟩
        case round =>
          obtain ⟨n, hn1, hn2, rfl, hK, hB⟩ := hrel
          have HB := Lib.hid hB
          have HK := Lib.hid hK
          clear hB hK HB3 hk3
          by_cases hlt2 : n < p
          · go_wp2_with fail
            refine (T.out _ _ _ (by omega) (by omega) HK.out).mono ?_
            rintro e w4 ⟨rfl, hk4, ho4⟩
            have hb' : tickB p (n - 1) = n := by unfold tickB; rw [if_pos (by omega)]; omega
            rw [hb'] at hk4
            have HK4 := Lib.hid hk4
            have HB4 := Lib.hid (ho4.2 _ _ HB.out (Nat.le_refl _))
            clear hk4 ho4 HK HB hb'
            go_wp2_with fail
            refine (AL.out _ _ _ HK4.out).mono ?_
            rintro e w5 ⟨rfl, n5, rfl⟩
            rw [decide_eq_true hlt2]
            go_wp2_with fail
            go_roundw
            case rel => exact ⟨n + 1, by omega, by omega, rfl, by rw [show n + 1 - 1 = n by omega]; exact HK4.out, bl_drew HB4.out _⟩
            case measure => simp [intOf]; omega
          · obtain rfl : n = p := by omega
            go_wp2_with fail
            refine (T.out _ _ _ (by omega) (by omega) HK.out).mono ?_
            rintro e w4 ⟨rfl, hk4, ho4⟩
            have hb' : tickB n (n - 1) = n := by unfold tickB; rw [if_pos (by omega)]; omega
            rw [hb'] at hk4
            have HK4 := Lib.hid hk4
            have HB4 := Lib.hid (ho4.2 _ _ HB.out (Nat.le_refl _))
            clear hk4 ho4 HK HB hb'
            go_wp2_with fail
            refine (AL.out _ _ _ HK4.out).mono ?_
            rintro e w5 ⟨rfl, n5, rfl⟩
            rw [decide_eq_false (show ¬ n < n by omega)]
            go_wp2_with fail
            refine (H.out _ _ _ (by omega) (by omega) (show KeepAt (w4.drewN n5) g n n from HK4.out)).mono ?_
            rintro e w6 ⟨rfl, hk6, ho6⟩
            have HK6 := Lib.hid hk6
            have HB6 := Lib.hid (ho6.2 _ _ (bl_drew HB4.out n5) (Nat.le_refl _))
            clear hk6 ho6 HK4 HB4
            go_wp2_with fail
            refine (AL.out _ _ _ HK6.out).mono ?_
            rintro e w7 ⟨rfl, n7, rfl⟩
            rw [decide_eq_true (show (0 : Int) < n by omega)]
            go_wp2_with fail
            refine (LV.out _).mono ?_
            rintro e w8 ⟨rfl, hb8⟩
            go_wp2_with fail
            go_ret
            exact ⟨rfl, bl_then' (bl_drew HB6.out _) hb8 (by have := lt_at HK6.out; show g ≤ w6.heap.size; omega)⟩
  · have hp' : p < 1 ∨ 100 < p := by omega
    have N := Lib.hid (New_no p w hp')
    clear hp hp' hr
    by_cases h300 : (300 : Int) < (l.length : Int)
    · go_enter Try.func7, Try.ntmps7
      go_wp2_with fail
      refine N.out.mono ?_
      rintro e w1 ⟨rfl, rfl⟩
      go_wp2_with fail
      refine (LV.out _).mono ?_
      rintro e w' ⟨rfl, hb⟩
      go_wp2_with fail
      go_ret
      exact ⟨rfl, hb⟩
    · go_enter Try.func7, Try.ntmps7
      go_wp2_with fail
      refine N.out.mono ?_
      rintro e w1 ⟨rfl, rfl⟩
      go_wp2_with fail
      refine (LV.out _).mono ?_
      rintro e w' ⟨rfl, hb⟩
      go_wp2_with fail
      go_ret
      exact ⟨rfl, hb⟩
end Go.Proofs.Ytafgaekpmnheoaa
