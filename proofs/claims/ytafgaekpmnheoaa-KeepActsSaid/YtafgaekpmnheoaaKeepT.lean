/-
  The walks of KeepActs.
-/
import Derived.Test.YtafgaekpmnheoaaKeepN
import Derived.Deep.RegionWith
namespace Go.Proofs.Ytafgaekpmnheoaa
open Go.RowKit Go.Proofs.YtafgaekpmnheoaaW.PrintWords Go.Proofs.YtafgaekpmnheoaaW.PrintMore
set_option linter.unusedVariables false
theorem bl_then' {g : Nat} {w W W' : World} (h : Below g w W) (h' : Below W.heap.size W W') (hg : g ≤ W.heap.size) : Below g w W' := h.trans (h'.mono hg)
theorem at_bool {w : World} {A : Option Addr} {n : Nat} {xs : List Bool} (h : Kd.C Kd.bool w A n xs) (k : Nat) (hk : k < n) : ∃ ad, A = some ad ∧ w.cell? (ad.add k) = some (.bool (xs.getD k false)) := by
  have h' := Kd.reads_of_C (enc := Value.bool) (d := false) (h1 := fun _ => rfl) h
  obtain ⟨ad, e, hc⟩ := h'.2.2 (by omega)
  exact ⟨ad, e, hc k hk⟩
theorem acts_walk (p : Int) (A : Option Addr) (cap : Nat) (l : List Bool) (w : World) (hr : Kd.C Kd.bool w A l.length l) :
    Calls Try.prog 6 #[.int .i64 p, .slice A l.length cap] w fun e w' => e = .returned (.bool true) ∧ Below w.heap.size w w' := by
  by_cases h300 : 300 < l.length
  · have h300' : (300 : Int) < (l.length : Int) := by omega
    have LV := Lib.hid (lives21)
    go_enter Try.func6, Try.ntmps6
    go_wp2_with fail
    refine (LV.out _).mono ?_
    rintro e w' ⟨rfl, hb⟩
    go_wp2_with fail
    go_ret
    exact ⟨rfl, hb⟩
  have h300' : ¬ (300 : Int) < (l.length : Int) := by omega
  by_cases hp : 1 ≤ p ∧ p ≤ 100
  · obtain ⟨hp1, hp2⟩ := hp
    have N := Lib.hid (New_yes p w hp1 hp2)
    have RN := Lib.hid (fun w => RNew_yes p w hp1 hp2)
    have LV := Lib.hid (lives21)
    have T := Lib.hid (fun g a w (h0 : 0 ≤ a) (h1 : a ≤ p) (h : KeepAt w g p a) => Tick_o g p a w hp1 hp2 h0 h1 h)
    have H := Lib.hid (fun g a w (h0 : 0 ≤ a) (h1 : a ≤ p) (h : KeepAt w g p a) => Heard_o g p a w hp1 hp2 h0 h1 h)
    have RT := Lib.hid (fun g a w (h0 : 0 ≤ a) (h1 : a ≤ p) (h : RKeepAt w g p a) => RTick_any g p a w hp1 hp2 h0 h1 h)
    have AL := Lib.hid (fun g a w (h : KeepAt w g p a) n => Calls.quiet_of (w := w) (n := n) ((Alive_any g p a (w.drewN n) hp1 h).mono fun e w' ⟨he, m, hm⟩ => ⟨he, m, hm⟩))
    have RA := Lib.hid (fun g a w (h : RKeepAt w g p a) n => Calls.quiet_of (w := w) (n := n) ((RAlive_any g p a (w.drewN n) h).mono fun e w' ⟨he, m, hm⟩ => ⟨he, m, hm⟩))
    have AG := Lib.hid (fun g a w (h : KeepAt w g p a) n => Calls.quiet_of (w := w) (n := n) ((Age_any g p a (w.drewN n) hp1 h).mono fun e w' ⟨he, hw⟩ => ⟨he, 0, hw.symm⟩))
    have HR := Lib.hid hr
    clear hr
    generalize hg : w.heap.size = g at N
    go_enter Try.func6, Try.ntmps6
    go_wp2_with fail
    refine N.out.mono ?_
    rintro e w1 ⟨rfl, hw1⟩
    go_wp2_with fail
    refine (RN.out _).mono ?_
    rintro e w2 ⟨rfl, hw2⟩
    have hs1 : w1.heap.size = g + 1 := by rw [← hw1, ← hg]; simp
    rw [hs1]
    have hk1 : KeepAt w1 g p 0 := by rw [← hw1, ← hg]; exact new_at _ _
    have hk2 : KeepAt w2 g p 0 := by rw [← hw2]; exact old_at hk1 _
    have hr2 : RKeepAt w2 (g + 1) p 0 := by have := new_at w1 (.cells #[.int .i64 0, .int .i64 p] 44); rw [hs1] at this; rw [← hw2]; exact this
    have HB2 : Hid (Below g w w2) := Lib.hid (by rw [← hw2, ← hw1, ← hg]; exact bl_all (bl_all (Below.refl _ w) _) _)
    clear hw1 hw2 hs1 hk1 N RN
    go_wp2_with fail
    go_loopw [9] (fun i wr => ∃ (k : Nat) (a : Int), k ≤ l.length ∧ i = .int .i64 k ∧ 0 ≤ a ∧ a ≤ p ∧ KeepAt wr g p a ∧ RKeepAt wr (g + 1) p a ∧ Below g w wr)
      (fun i _ => l.length - (intOf i).toNat)
    case atStart => exact ⟨0, 0, Nat.zero_le _, rfl, by omega, by omega, hk2, hr2, HB2.out⟩
    case round =>
      obtain ⟨k, a, hk, rfl, ha0, ha1, hK, hRK, hB⟩ := hrel
      have HB := Lib.hid hB
      have HK := Lib.hid hK
      have HRK := Lib.hid hRK
      clear hB hK hRK HB2 hk2 hr2
      by_cases hlt : k < l.length
      · obtain ⟨ad, rfl, hcell⟩ := at_bool (Kd.C_below HR.out (by rw [hg]; exact HB.out)) k hlt
        have hlt' : (k : Int) < (l.length : Int) := by omega
        have hb0 : decide ((k : Int) < (l.length : Int)) = true := by simpa using hlt
        generalize hx : l.getD k false = x at hcell
        clear hx
        cases x with
        | true =>
          go_wp2_with fail
          refine (T.out _ _ _ ha0 ha1 HK.out).mono ?_
          rintro e w3 ⟨rfl, hk3, ho3⟩
          have HK3 := Lib.hid hk3
          have HRK3 : Hid (RKeepAt w3 (g + 1) p a) := Lib.hid (by have := HRK.out; unfold RKeepAt at this ⊢; rw [ho3.1 _ (by omega)]; exact this)
          have HB3 := Lib.hid (ho3.2 _ _ HB.out (Nat.le_refl _))
          clear hk3 ho3 HK HRK HB
          go_wp2_with fail
          refine (RT.out _ _ _ ha0 ha1 HRK3.out).mono ?_
          rintro e w4 ⟨rfl, hk4, ho4⟩
          have HRK4 := Lib.hid hk4
          have HK4 : Hid (KeepAt w4 g p (tickB p a)) := Lib.hid (by have := HK3.out; unfold KeepAt at this ⊢; rw [ho4.1 _ (by omega)]; exact this)
          have HB4 := Lib.hid (ho4.2 _ _ HB3.out (by omega))
          clear hk4 ho4 HK3 HRK3 HB3
          have hb' : 0 ≤ tickB p a ∧ tickB p a ≤ p := by unfold tickB; split <;> omega
          obtain ⟨b, hb⟩ : ∃ b, tickB p a = b := ⟨_, rfl⟩
          rw [hb] at HK4 HRK4 hb'
          clear hb
          have hd : w4.cell? ⟨g + 1, 0, none⟩ = some (.int .i64 b) := blk_cell HRK4.out 0
          go_wp2_with fail
          go_quiet (first | (go_at_call 26; exact AG.out _ _ _ HK4.out _) | (go_at_call 27; exact AL.out _ _ _ HK4.out _) | (go_at_call 28; exact RA.out _ _ _ HRK4.out _))
          go_wp2_with fail
          exact ⟨⟨k + 1, b, by omega, by go_num, hb'.1, hb'.2, HK4.out, HRK4.out, bl_drew HB4.out _⟩, by simp [intOf]; omega⟩
        | false =>
          go_wp2_with fail
          refine (H.out _ _ _ ha0 ha1 HK.out).mono ?_
          rintro e w3 ⟨rfl, hk3, ho3⟩
          have HK3 := Lib.hid hk3
          have HRK3 : Hid (RKeepAt w3 (g + 1) p a) := Lib.hid (by have := HRK.out; unfold RKeepAt at this ⊢; rw [ho3.1 _ (by omega)]; exact this)
          have HB3 := Lib.hid (ho3.2 _ _ HB.out (Nat.le_refl _))
          clear hk3 ho3 HK HRK HB
          have hd3 : w3.cell? ⟨g + 1, 0, none⟩ = some (.int .i64 a) := blk_cell HRK3.out 0
          have hf3 : w3.frozen? ⟨g + 1, 0, none⟩ = false := blk_frozen HRK3.out 0
          go_wp2_with fail
          generalize hw4 : w3.setCell ⟨g + 1, 0, none⟩ (.int .i64 0) = w4
          have HRK4 : Hid (RKeepAt w4 (g + 1) p 0) := Lib.hid (by rw [← hw4]; exact set_at (w := w3) HRK3.out 0 _)
          have HK4 : Hid (KeepAt w4 g p 0) := Lib.hid (by rw [← hw4]; exact far_at HK3.out (by simp) _)
          have HB4 : Hid (Below g w w4) := Lib.hid (by rw [← hw4]; exact bl_set (p := ⟨g + 1, 0, none⟩) HB3.out (by simp) _)
          clear hw4 HK3 HRK3 HB3 hd3 hf3
          have hd : w4.cell? ⟨g + 1, 0, none⟩ = some (.int .i64 0) := blk_cell HRK4.out 0
          go_quiet (first | (go_at_call 26; exact AG.out _ _ _ HK4.out _) | (go_at_call 27; exact AL.out _ _ _ HK4.out _) | (go_at_call 28; exact RA.out _ _ _ HRK4.out _))
          go_wp2_with fail
          exact ⟨⟨k + 1, 0, by omega, by go_num, by omega, by omega, HK4.out, HRK4.out, bl_drew HB4.out _⟩, by simp [intOf]; omega⟩
      · have hb0 : decide ((k : Int) < (l.length : Int)) = false := by simpa using hlt
        have hlt' : ¬ (k : Int) < (l.length : Int) := by omega
        go_wp2_with fail
        refine (LV.out _).mono ?_
        rintro e w' ⟨rfl, hb3⟩
        go_wp2_with fail
        go_ret
        exact ⟨rfl, bl_then' HB.out hb3 (by have := lt_at HK.out; omega)⟩
  · have hp' : p < 1 ∨ 100 < p := by omega
    have N := Lib.hid (New_no p w hp')
    have RN := Lib.hid (RNew_no p w hp')
    have LV := Lib.hid (lives21)
    clear hp hp' hr
    go_enter Try.func6, Try.ntmps6
    go_wp2_with fail
    refine N.out.mono ?_
    rintro e w1 ⟨rfl, rfl⟩
    go_wp2_with fail
    refine RN.out.mono ?_
    rintro e w2 ⟨rfl, rfl⟩
    go_wp2_with fail
    go_loopw [9] (fun i wr => i = .int .i64 0 ∧ wr = w) (fun i _ => 0)
    case atStart => exact ⟨rfl, rfl⟩
    case round =>
      obtain ⟨rfl, rfl⟩ := hrel
      by_cases hlt : 0 < l.length
      · have hb0 : decide ((0 : Int) < (l.length : Int)) = true := by simpa using hlt
        have hb1 : (0 : Int) < (l.length : Int) := by omega
        go_wp2_with fail
        refine (LV.out _).mono ?_
        rintro e w' ⟨rfl, hb3⟩
        go_wp2_with fail
        go_ret
        exact ⟨rfl, hb3⟩
      · have hb0 : decide ((0 : Int) < (l.length : Int)) = false := by simpa using hlt
        have hb1 : ¬ (0 : Int) < (l.length : Int) := by omega
        go_wp2_with fail
        refine (LV.out _).mono ?_
        rintro e w' ⟨rfl, hb3⟩
        go_wp2_with fail
        go_ret
        exact ⟨rfl, hb3⟩
end Go.Proofs.Ytafgaekpmnheoaa
