/-
  DiceKinds: its walk (printed by tools/mkdicekw.py).
-/
import Derived.Test.YtoobbolaoldacaaDiceSA
import Derived.Test.YtoobbolaoldacaaDiceKP
import Derived.LoopTactic
namespace Go.Proofs.Ytoobbolaoldacaa.DiceW
open Go.RowKit Go.Proofs.Ytoobbolaoldacaa Go.Proofs.Ytoobbolaoldacaa.Dice Go.Proofs.Ytoobbolaoldacaa.DiceP Go.Proofs.Ytoobbolaoldacaa.RowOwn Go.Proofs.YtoobbolaoldacaaW.PrintWords Go.Proofs.YtoobbolaoldacaaW.PrintLast Go.Proofs.YtoobbolaoldacaaW.PrintMore
set_option linter.unusedVariables false
set_option maxRecDepth 20000 in
set_option maxHeartbeats 4000000 in
theorem kinds_walk (s : Nat) (hs : s < 18446744073709551616) (c0 c1 c2 c3 c4 a0 a1 a2 a3 a4 a5 a6 a7 : Int) (w : World) :
    Calls Try.prog 11 #[.int .u64 (s : Int), Cf c0 c1 c2 c3 c4, W8 a0 a1 a2 a3 a4 a5 a6 a7] w fun e w' => e = .returned (.bool true) ∧ Below w.heap.size w w' := by
  have SC := Lib.hid (fun w => script_any s 40 c0 c1 c2 c3 c4 a0 a1 a2 a3 a4 a5 a6 a7 w hs)
  have GD := Lib.hid (fun w => reqGood_walk c0 c1 c2 c3 c4 w)
  have RS := Lib.hid (fun w => rsum_walk a0 a1 a2 a3 a4 a5 a6 a7 w)
  have LV := Lib.hid lives41
  cases hg : reqGood c0 c1 c2 c3 c4 with
  | false =>
    rw [show scrG 40 c0 c1 c2 c3 c4 a0 a1 a2 a3 a4 a5 a6 a7 s = [] from if_pos (.inr (.inr (.inl hg)))] at SC
    have HLEN := Lib.hid (List.length_nil (α := Ac))
    have HG := Lib.hid hg
    clear hg
    have hS : SI 93 w w.heap.size c0 c1 c2 c3 c4 a0 a1 a2 a3 a4 a5 a6 a7 ((w.alloc (.cells #[.int .i64 c0, .int .i64 c1, .int .i64 c2, .int .i64 c3, .int .i64 c4] 92)).alloc (.cells #[.int .i64 a0, .int .i64 a1, .int .i64 a2, .int .i64 a3, .int .i64 a4, .int .i64 a5, .int .i64 a6, .int .i64 a7] 93)) := ⟨old_at (new_at _ _) _, new_at1 _ _ _, bl_all (bl_all (Below.refl _ _) _) _, rfl⟩
    go_enter Try.func11, Try.ntmps11
    go_upto_region 1 with (fail)
    generalize ((w.alloc (.cells #[.int .i64 c0, .int .i64 c1, .int .i64 c2, .int .i64 c3, .int .i64 c4] 92)).alloc (.cells #[.int .i64 a0, .int .i64 a1, .int .i64 a2, .int .i64 a3, .int .i64 a4, .int .i64 a5, .int .i64 a6, .int .i64 a7] 93)) = W0 at hS ⊢
    generalize hq : w.heap.size = q at hS ⊢
    have HQ := Lib.hid hq
    clear hq
    obtain ⟨f0, f1, f2, f3, f4⟩ := si_cf hS
    obtain ⟨e0, e1, e2, e3, e4, e5, e6, e7⟩ := si_ws hS
    have HS0 := Lib.hid hS
    clear hS
    go_wp2_with (first
      | (go_at_call 52; refine (SC.out _).mono ?_; rintro e w1 ⟨v1, rfl, hrow, hb1⟩; obtain ⟨A1, d1, he1, hd1, hC1⟩ := row_reads hrow; rw [HLEN.out] at he1 hC1; subst he1; have HS1 := Lib.hid (si_below HS0.out hb1); have HC1 := Lib.hid hC1; clear f0 f1 f2 f3 f4 e0 e1 e2 e3 e4 e5 e6 e7 hrow hb1 hC1; obtain ⟨f0, f1, f2, f3, f4⟩ := si_cf HS1.out)
      | (go_at_call 53; refine (GD.out _).mono ?_; rw [HG.out]; rintro e w2 ⟨rfl, hb2⟩; have HS2 := Lib.hid (si_below HS1.out hb2); have HC2 := Lib.hid (Kd.C_below HC1.out hb2); clear f0 f1 f2 f3 f4 hb2; obtain ⟨e0, e1, e2, e3, e4, e5, e6, e7⟩ := si_ws HS2.out)
      | (go_at_call 40; refine (LV.out _).mono ?_; rintro e w9 ⟨rfl, hb9⟩))
    go_ret
    exact ⟨rfl, bl_then HS2.out.2.2.1 hb9⟩
  | true =>
    by_cases hz : sum8 a0 a1 a2 a3 a4 a5 a6 a7 = 0
    · rw [show scrG 40 c0 c1 c2 c3 c4 a0 a1 a2 a3 a4 a5 a6 a7 s = [] from if_pos (.inr (.inr (.inr hz)))] at SC
      have HLEN := Lib.hid (List.length_nil (α := Ac))
      have HG := Lib.hid hg
      have HZ := Lib.hid hz
      clear hg hz
      have hS : SI 93 w w.heap.size c0 c1 c2 c3 c4 a0 a1 a2 a3 a4 a5 a6 a7 ((w.alloc (.cells #[.int .i64 c0, .int .i64 c1, .int .i64 c2, .int .i64 c3, .int .i64 c4] 92)).alloc (.cells #[.int .i64 a0, .int .i64 a1, .int .i64 a2, .int .i64 a3, .int .i64 a4, .int .i64 a5, .int .i64 a6, .int .i64 a7] 93)) := ⟨old_at (new_at _ _) _, new_at1 _ _ _, bl_all (bl_all (Below.refl _ _) _) _, rfl⟩
      go_enter Try.func11, Try.ntmps11
      go_upto_region 1 with (fail)
      generalize ((w.alloc (.cells #[.int .i64 c0, .int .i64 c1, .int .i64 c2, .int .i64 c3, .int .i64 c4] 92)).alloc (.cells #[.int .i64 a0, .int .i64 a1, .int .i64 a2, .int .i64 a3, .int .i64 a4, .int .i64 a5, .int .i64 a6, .int .i64 a7] 93)) = W0 at hS ⊢
      generalize hq : w.heap.size = q at hS ⊢
      have HQ := Lib.hid hq
      clear hq
      obtain ⟨f0, f1, f2, f3, f4⟩ := si_cf hS
      obtain ⟨e0, e1, e2, e3, e4, e5, e6, e7⟩ := si_ws hS
      have HS0 := Lib.hid hS
      clear hS
      go_wp2_with (first
        | (go_at_call 52; refine (SC.out _).mono ?_; rintro e w1 ⟨v1, rfl, hrow, hb1⟩; obtain ⟨A1, d1, he1, hd1, hC1⟩ := row_reads hrow; rw [HLEN.out] at he1 hC1; subst he1; have HS1 := Lib.hid (si_below HS0.out hb1); have HC1 := Lib.hid hC1; clear f0 f1 f2 f3 f4 e0 e1 e2 e3 e4 e5 e6 e7 hrow hb1 hC1; obtain ⟨f0, f1, f2, f3, f4⟩ := si_cf HS1.out)
        | (go_at_call 53; refine (GD.out _).mono ?_; rw [HG.out]; rintro e w2 ⟨rfl, hb2⟩; have HS2 := Lib.hid (si_below HS1.out hb2); have HC2 := Lib.hid (Kd.C_below HC1.out hb2); clear f0 f1 f2 f3 f4 hb2; obtain ⟨e0, e1, e2, e3, e4, e5, e6, e7⟩ := si_ws HS2.out)
        | (go_at_call 54; refine (RS.out _).mono ?_; rw [HZ.out]; rintro e w3 ⟨rfl, hb3⟩; have HS3 := Lib.hid (si_below HS2.out hb3); have HC3 := Lib.hid (Kd.C_below HC2.out hb3); clear e0 e1 e2 e3 e4 e5 e6 e7 hb3)
        | (go_at_call 40; refine (LV.out _).mono ?_; rintro e w9 ⟨rfl, hb9⟩))
      go_ret
      exact ⟨rfl, bl_then HS3.out.2.2.1 hb9⟩
    · have hbad : ¬ ((40 : Int) < 0 ∨ (1000 : Int) < 40 ∨ reqGood c0 c1 c2 c3 c4 = false ∨ sum8 a0 a1 a2 a3 a4 a5 a6 a7 = 0) := by
        rintro (h | h | h | h)
        · exact absurd h (by decide)
        · exact absurd h (by decide)
        · rw [hg] at h; cases h
        · exact hz h
      rw [show scrG 40 c0 c1 c2 c3 c4 a0 a1 a2 a3 a4 a5 a6 a7 s = scL (actN c0 a0 a1 a2 a3 a4 a5 a6 a7) 40 (seedN s) from if_neg hbad] at SC
      have hlen : (scL (actN c0 a0 a1 a2 a3 a4 a5 a6 a7) 40 (seedN s)).length = 40 := scL_len _ _ _
      have hok := scL_ok (good_c0 hg).1 hz 40 (seedN s)
      have hc2 := (good_c0 hg).2
      generalize scL (actN c0 a0 a1 a2 a3 a4 a5 a6 a7) 40 (seedN s) = L at SC hlen hok
      have HLEN := Lib.hid hlen
      have HOK := Lib.hid hok
      have HG := Lib.hid hg
      have HZ := Lib.hid hz
      have HC256 := Lib.hid hc2
      obtain ⟨sm, hsm⟩ : ∃ sm, sum8 a0 a1 a2 a3 a4 a5 a6 a7 = sm := ⟨_, rfl⟩
      have HSM := Lib.hid hsm
      have hzb : (sm == 0) = false := by rw [← hsm]; exact beq_eq_false_iff_ne.mpr hz
      clear hg hbad hlen hok hc2 hsm hz
      have hS : SI 93 w w.heap.size c0 c1 c2 c3 c4 a0 a1 a2 a3 a4 a5 a6 a7 ((w.alloc (.cells #[.int .i64 c0, .int .i64 c1, .int .i64 c2, .int .i64 c3, .int .i64 c4] 92)).alloc (.cells #[.int .i64 a0, .int .i64 a1, .int .i64 a2, .int .i64 a3, .int .i64 a4, .int .i64 a5, .int .i64 a6, .int .i64 a7] 93)) := ⟨old_at (new_at _ _) _, new_at1 _ _ _, bl_all (bl_all (Below.refl _ _) _) _, rfl⟩
      go_enter Try.func11, Try.ntmps11
      go_upto_region 1 with (fail)
      generalize ((w.alloc (.cells #[.int .i64 c0, .int .i64 c1, .int .i64 c2, .int .i64 c3, .int .i64 c4] 92)).alloc (.cells #[.int .i64 a0, .int .i64 a1, .int .i64 a2, .int .i64 a3, .int .i64 a4, .int .i64 a5, .int .i64 a6, .int .i64 a7] 93)) = W0 at hS ⊢
      generalize hq : w.heap.size = q at hS ⊢
      have HQ := Lib.hid hq
      clear hq
      obtain ⟨f0, f1, f2, f3, f4⟩ := si_cf hS
      obtain ⟨e0, e1, e2, e3, e4, e5, e6, e7⟩ := si_ws hS
      have HS0 := Lib.hid hS
      clear hS
      go_wp2_with (first
        | (go_at_call 52; refine (SC.out _).mono ?_; rintro e w1 ⟨v1, rfl, hrow, hb1⟩; obtain ⟨A1, d1, he1, hd1, hC1⟩ := row_reads hrow; rw [HLEN.out] at he1 hC1; subst he1; have HS1 := Lib.hid (si_below HS0.out hb1); have HC1 := Lib.hid hC1; clear f0 f1 f2 f3 f4 e0 e1 e2 e3 e4 e5 e6 e7 hrow hb1 hC1; obtain ⟨f0, f1, f2, f3, f4⟩ := si_cf HS1.out)
        | (go_at_call 53; refine (GD.out _).mono ?_; rw [HG.out]; rintro e w2 ⟨rfl, hb2⟩; have HS2 := Lib.hid (si_below HS1.out hb2); have HC2 := Lib.hid (Kd.C_below HC1.out hb2); clear f0 f1 f2 f3 f4 hb2; obtain ⟨e0, e1, e2, e3, e4, e5, e6, e7⟩ := si_ws HS2.out)
        | (go_at_call 54; refine (RS.out _).mono ?_; rw [show sum8 a0 a1 a2 a3 a4 a5 a6 a7 = sm from HSM.out]; rintro e w3 ⟨rfl, hb3⟩; have HS3 := Lib.hid (si_below HS2.out hb3); have HC3 := Lib.hid (Kd.C_below HC2.out hb3); clear e0 e1 e2 e3 e4 e5 e6 e7 hb3))
      go_loopw [33] (fun iv wr => ∃ (k : Nat), k ≤ 40 ∧ iv = .int .i64 (k : Int) ∧ Hid (SI 93 w q c0 c1 c2 c3 c4 a0 a1 a2 a3 a4 a5 a6 a7 wr) ∧ Hid (Kd.C KA wr A1 40 L)) (fun i _ => 40 - (intOf i).toNat)
      case atStart => exact ⟨0, Nat.zero_le _, rfl, HS3, HC3⟩
      case round =>
        obtain ⟨k, hk, rfl, hsi, hC⟩ := hrel
        clear HS3 HC3 HS1 HC1 HS2 HC2 HS0 hzb
        by_cases hlt : k < 40
        rotate_left
        · have hlt' : ¬ (k : Int) < 40 := by omega
          go_wp2_with (go_at_call 40; refine (LV.out _).mono ?_; rintro e w9 ⟨rfl, hb9⟩)
          go_ret
          exact ⟨rfl, bl_then hsi.out.2.2.1 hb9⟩
        have hlt' : (k : Int) < 40 := by omega
        have hkl : k < L.length := by have := HLEN.out; omega
        obtain ⟨ad, B, d, hAd, y0, y1, y2, y3, y4, y5, y6, y7, hd, hB⟩ := at_KA hC.out k hkl
        subst hAd
        have hok := HOK.out _ (List.getElem_mem hkl)
        generalize L[k] = a at y0 y1 y2 y3 y4 y5 y6 y7 hd hB hok
        have CK := Lib.hid (fun (W : World) (hW : Kd.C KB W B a.r.data.length a.r.data) (h : RqOk c0 a.r) => request_Check.calls c0 c1 c2 c3 c4 a.r.kd a.r.off a.r.len B d a.r.data 0 W hW hd (check_ok h HC256.out))
        have HB := Lib.hid hB
        obtain ⟨e0, e1, e2, e3, e4, e5, e6, e7⟩ := si_ws hsi.out
        obtain ⟨f0, f1, f2, f3, f4⟩ := si_cf hsi.out
        have hqs := si_lt hsi.out
        have hqs0 : q < wr.heap.size := Nat.lt_of_succ_lt hqs
        obtain ⟨⟨hk0, hk7, hwt⟩, _, _, hr⟩ := hok
        obtain ⟨kind, who, at_, mask, r⟩ := a
        dsimp only at y0 y1 y2 y3 y4 y5 y6 y7 hk0 hk7 hwt hr CK HB
        clear hB hd
        rcases (show kind = 0 ∨ kind = 1 ∨ kind = 2 ∨ kind = 3 ∨ kind = 4 ∨ kind = 5 ∨ kind = 6 ∨ kind = 7 by omega) with rfl | rfl | rfl | rfl | rfl | rfl | rfl | rfl
        · have hw : ¬ a0 = 0 := hwt
          clear hk0 hk7 hwt
          have hR : RqOk c0 r := by
            rcases hr with h | h
            · exact h
            · exact absurd rfl h.1
          go_wp2_with (go_at_call 55; refine (CK.out _ (Kd.C_below HB.out (bl_all (Below.refl _ _) _)) hR).mono ?_; rintro e w5 ⟨rfl, hb5⟩)
          go_roundw
          case rel => exact ⟨k + 1, by omega, by go_num, Lib.hid (si_below hsi.out (bl_then (bl_all (Below.refl _ _) _) hb5)), Lib.hid (Kd.C_below hC.out (bl_then (bl_all (Below.refl _ _) _) hb5))⟩
          case measure => simp [intOf]; omega
        · have hw : ¬ a1 = 0 := hwt
          clear hk0 hk7 hwt
          go_wp2_with fail
          go_roundw
          case rel => exact ⟨k + 1, by omega, by go_num, Lib.hid (si_below hsi.out (bl_all (Below.refl _ _) _)), Lib.hid (Kd.C_below hC.out (bl_all (Below.refl _ _) _))⟩
          case measure => simp [intOf]; omega
        · have hw : ¬ a2 = 0 := hwt
          clear hk0 hk7 hwt
          go_wp2_with fail
          go_roundw
          case rel => exact ⟨k + 1, by omega, by go_num, Lib.hid (si_below hsi.out (bl_all (Below.refl _ _) _)), Lib.hid (Kd.C_below hC.out (bl_all (Below.refl _ _) _))⟩
          case measure => simp [intOf]; omega
        · have hw : ¬ a3 = 0 := hwt
          clear hk0 hk7 hwt
          go_wp2_with fail
          go_roundw
          case rel => exact ⟨k + 1, by omega, by go_num, Lib.hid (si_below hsi.out (bl_all (Below.refl _ _) _)), Lib.hid (Kd.C_below hC.out (bl_all (Below.refl _ _) _))⟩
          case measure => simp [intOf]; omega
        · have hw : ¬ a4 = 0 := hwt
          clear hk0 hk7 hwt
          go_wp2_with fail
          go_roundw
          case rel => exact ⟨k + 1, by omega, by go_num, Lib.hid (si_below hsi.out (bl_all (Below.refl _ _) _)), Lib.hid (Kd.C_below hC.out (bl_all (Below.refl _ _) _))⟩
          case measure => simp [intOf]; omega
        · have hw : ¬ a5 = 0 := hwt
          clear hk0 hk7 hwt
          go_wp2_with fail
          go_roundw
          case rel => exact ⟨k + 1, by omega, by go_num, Lib.hid (si_below hsi.out (bl_all (Below.refl _ _) _)), Lib.hid (Kd.C_below hC.out (bl_all (Below.refl _ _) _))⟩
          case measure => simp [intOf]; omega
        · have hw : ¬ a6 = 0 := hwt
          clear hk0 hk7 hwt
          go_wp2_with fail
          go_roundw
          case rel => exact ⟨k + 1, by omega, by go_num, Lib.hid (si_below hsi.out (bl_all (Below.refl _ _) _)), Lib.hid (Kd.C_below hC.out (bl_all (Below.refl _ _) _))⟩
          case measure => simp [intOf]; omega
        · have hw : ¬ a7 = 0 := hwt
          clear hk0 hk7 hwt
          go_wp2_with fail
          go_roundw
          case rel => exact ⟨k + 1, by omega, by go_num, Lib.hid (si_below hsi.out (bl_all (Below.refl _ _) _)), Lib.hid (Kd.C_below hC.out (bl_all (Below.refl _ _) _))⟩
          case measure => simp [intOf]; omega
end Go.Proofs.Ytoobbolaoldacaa.DiceW
