/-
  Dice: a script, the reference's, whatever is asked (printed by tools/mkdicek.py).
-/
import Derived.Test.YtoobbolaoldacaaDiceSA
namespace Go.Proofs.Ytoobbolaoldacaa.DiceW
open Go.RowKit Go.Proofs.Ytoobbolaoldacaa Go.Proofs.Ytoobbolaoldacaa.Dice Go.Proofs.Ytoobbolaoldacaa.DiceP Go.Proofs.Ytoobbolaoldacaa.RowOwn Go.Proofs.YtoobbolaoldacaaW.PrintWords Go.Proofs.YtoobbolaoldacaaW.PrintLast Go.Proofs.YtoobbolaoldacaaW.PrintMore
set_option linter.unusedVariables false
set_option maxRecDepth 20000 in
theorem rscript_no (s n : Int) (c0 c1 c2 c3 c4 a0 a1 a2 a3 a4 a5 a6 a7 : Int) (w : World) (hbad : n < 0 ∨ 1000 < n ∨ reqGood c0 c1 c2 c3 c4 = false ∨ sum8 a0 a1 a2 a3 a4 a5 a6 a7 = 0) :
    Calls Try.prog 58 #[.int .u64 s, Cf c0 c1 c2 c3 c4, .int .i64 n, W8 a0 a1 a2 a3 a4 a5 a6 a7] w fun e w' => e = .returned (.slice none 0 0) ∧ Below w.heap.size w w' := by
  have hS : SI 93 w w.heap.size c0 c1 c2 c3 c4 a0 a1 a2 a3 a4 a5 a6 a7 ((w.alloc (.cells #[.int .i64 c0, .int .i64 c1, .int .i64 c2, .int .i64 c3, .int .i64 c4] 92)).alloc (.cells #[.int .i64 a0, .int .i64 a1, .int .i64 a2, .int .i64 a3, .int .i64 a4, .int .i64 a5, .int .i64 a6, .int .i64 a7] 93)) := ⟨old_at (new_at _ _) _, new_at1 _ _ _, bl_all (bl_all (Below.refl _ _) _) _, rfl⟩
  have GD := Lib.hid (fun w => twainref28_Good.calls c0 c1 c2 c3 c4 (reqGood c0 c1 c2 c3 c4) w (by rw [ref_good28]))
  have SM := Lib.hid (fun w => rsum_walk a0 a1 a2 a3 a4 a5 a6 a7 w)
  by_cases h1 : n < 0
  · clear hbad
    go_enter Try.func58, Try.ntmps58
    go_upto_region 1 with (fail)
    generalize ((w.alloc (.cells #[.int .i64 c0, .int .i64 c1, .int .i64 c2, .int .i64 c3, .int .i64 c4] 92)).alloc (.cells #[.int .i64 a0, .int .i64 a1, .int .i64 a2, .int .i64 a3, .int .i64 a4, .int .i64 a5, .int .i64 a6, .int .i64 a7] 93)) = W0 at hS ⊢
    obtain ⟨f0, f1, f2, f3, f4⟩ := si_cf hS
    have HS0 := Lib.hid hS
    clear hS
    go_wp2_with fail
    go_ret
    exact ⟨rfl, HS0.out.2.2.1⟩
  by_cases h2 : n > 1000
  · clear hbad
    go_enter Try.func58, Try.ntmps58
    go_upto_region 1 with (fail)
    generalize ((w.alloc (.cells #[.int .i64 c0, .int .i64 c1, .int .i64 c2, .int .i64 c3, .int .i64 c4] 92)).alloc (.cells #[.int .i64 a0, .int .i64 a1, .int .i64 a2, .int .i64 a3, .int .i64 a4, .int .i64 a5, .int .i64 a6, .int .i64 a7] 93)) = W0 at hS ⊢
    obtain ⟨f0, f1, f2, f3, f4⟩ := si_cf hS
    have HS0 := Lib.hid hS
    clear hS
    go_wp2_with fail
    go_ret
    exact ⟨rfl, HS0.out.2.2.1⟩
  have h2' : ¬ 1000 < n := h2
  cases hg : reqGood c0 c1 c2 c3 c4 with
  | false =>
    have HG := Lib.hid hg
    clear hbad hg h2'
    go_enter Try.func58, Try.ntmps58
    go_upto_region 1 with (fail)
    generalize ((w.alloc (.cells #[.int .i64 c0, .int .i64 c1, .int .i64 c2, .int .i64 c3, .int .i64 c4] 92)).alloc (.cells #[.int .i64 a0, .int .i64 a1, .int .i64 a2, .int .i64 a3, .int .i64 a4, .int .i64 a5, .int .i64 a6, .int .i64 a7] 93)) = W0 at hS ⊢
    obtain ⟨f0, f1, f2, f3, f4⟩ := si_cf hS
    have HS0 := Lib.hid hS
    clear hS
    go_wp2_with (go_at_call 86; refine (GD.out _).mono ?_; rw [HG.out]; rintro e w3 ⟨rfl, hb3⟩)
    go_ret
    exact ⟨rfl, bl_then HS0.out.2.2.1 hb3⟩
  | true =>
    have hs0 : sum8 a0 a1 a2 a3 a4 a5 a6 a7 = 0 := by
      rcases hbad with h | h | h | h
      · exact absurd h h1
      · exact absurd h h2'
      · rw [hg] at h; cases h
      · exact h
    have HG := Lib.hid hg
    have HZ := Lib.hid hs0
    clear hbad hg h2' hs0
    go_enter Try.func58, Try.ntmps58
    go_upto_region 1 with (fail)
    generalize ((w.alloc (.cells #[.int .i64 c0, .int .i64 c1, .int .i64 c2, .int .i64 c3, .int .i64 c4] 92)).alloc (.cells #[.int .i64 a0, .int .i64 a1, .int .i64 a2, .int .i64 a3, .int .i64 a4, .int .i64 a5, .int .i64 a6, .int .i64 a7] 93)) = W0 at hS ⊢
    obtain ⟨f0, f1, f2, f3, f4⟩ := si_cf hS
    have HS0 := Lib.hid hS
    clear hS
    go_wp2_with (first
      | (go_at_call 86; refine (GD.out _).mono ?_; rw [HG.out]; rintro e w3 ⟨rfl, hb3⟩; have HS3 := Lib.hid (si_below HS0.out hb3); obtain ⟨e0, e1, e2, e3, e4, e5, e6, e7⟩ := si_ws HS3.out; clear f0 f1 f2 f3 f4 HS0 hb3)
      | (go_at_call 54; refine (SM.out _).mono ?_; rw [HZ.out]; rintro e w1 ⟨rfl, hb1⟩))
    go_ret
    exact ⟨rfl, bl_then HS3.out.2.2.1 hb1⟩
set_option maxRecDepth 20000 in
set_option maxHeartbeats 4000000 in
theorem rscript_with (F : Nat → Ac × Nat) (s n : Nat) (c0 c1 c2 c3 c4 a0 a1 a2 a3 a4 a5 a6 a7 : Int) (w : World) (hs : s < 18446744073709551616) (hn : n ≤ 1000) (hg : reqGood c0 c1 c2 c3 c4 = true) (hsum : sum8 a0 a1 a2 a3 a4 a5 a6 a7 ≠ 0) (hFl : ∀ x, Live x → Live (F x).2)
    (hA : ∀ (W : World) (g x : Nat), Live x → DAt 149 W g x → Calls Try.prog 50 #[.pointer (some ⟨g, 0, none⟩), Cf c0 c1 c2 c3 c4, W8 a0 a1 a2 a3 a4 a5 a6 a7] W (ActQ 149 W g (F x))) :
    Calls Try.prog 58 #[.int .u64 (s : Int), Cf c0 c1 c2 c3 c4, .int .i64 (n : Int), W8 a0 a1 a2 a3 a4 a5 a6 a7] w fun e w' => ∃ v, e = .returned v ∧ Row KA 107 w' w.heap.size (fun _ => True) v (scL F n (seedN s)) ∧ Below w.heap.size w w' := by
  have SM := Lib.hid (fun w => rsum_walk a0 a1 a2 a3 a4 a5 a6 a7 w)
  have GD := Lib.hid (fun w => twainref28_Good.calls c0 c1 c2 c3 c4 (reqGood c0 c1 c2 c3 c4) w (by rw [ref_good28]))
  have HG := Lib.hid hg
  have HSM := Lib.hid hsum
  have HA := Lib.hid hA
  have hn1 : ¬ (n : Int) < 0 := by omega
  have hn2 : ¬ (n : Int) > 1000 := by omega
  have NW := Lib.hid (fun w => rnew_walk s w hs)
  have HLS := Lib.hid (fun k => stN_live hFl (seed_live hs) k)
  clear hg hsum hA
  go_enter Try.func58, Try.ntmps58
  go_upto_region 1 with (fail)
  have hS : SI 93 w w.heap.size c0 c1 c2 c3 c4 a0 a1 a2 a3 a4 a5 a6 a7 ((w.alloc (.cells #[.int .i64 c0, .int .i64 c1, .int .i64 c2, .int .i64 c3, .int .i64 c4] 92)).alloc (.cells #[.int .i64 a0, .int .i64 a1, .int .i64 a2, .int .i64 a3, .int .i64 a4, .int .i64 a5, .int .i64 a6, .int .i64 a7] 93)) :=
    ⟨old_at (new_at _ _) _, new_at1 _ _ _, bl_all (bl_all (Below.refl _ _) _) _, rfl⟩
  generalize (w.alloc (.cells #[.int .i64 c0, .int .i64 c1, .int .i64 c2, .int .i64 c3, .int .i64 c4] 92)).alloc (.cells #[.int .i64 a0, .int .i64 a1, .int .i64 a2, .int .i64 a3, .int .i64 a4, .int .i64 a5, .int .i64 a6, .int .i64 a7] 93) = W0 at hS ⊢
  generalize hq : w.heap.size = q at hS ⊢
  have HQ := Lib.hid hq
  clear hq
  obtain ⟨f0, f1, f2, f3, f4⟩ := si_cf hS
  have HS0 := Lib.hid hS
  clear hS
  go_wp2_with (first
    | (go_at_call 86; refine (GD.out _).mono ?_; rw [HG.out]; rintro e w3 ⟨rfl, hb3⟩; have HS3 := Lib.hid (si_below HS0.out hb3); obtain ⟨e0, e1, e2, e3, e4, e5, e6, e7⟩ := si_ws HS3.out; clear f0 f1 f2 f3 f4 HS0 hb3)
    | (go_at_call 54; refine (SM.out _).mono ?_; rintro e w1 ⟨rfl, hb1⟩; have HS1 := Lib.hid (si_below HS3.out hb1); have hs0 : ¬ sum8 a0 a1 a2 a3 a4 a5 a6 a7 = 0 := HSM.out; clear e0 e1 e2 e3 e4 e5 e6 e7 HS3 hb1)
    | (go_at_call 42; refine (NW.out _).mono ?_; rintro e w4 ⟨rfl, rfl⟩; have HD4 := Lib.hid (show DAt 149 (w1.alloc (.cells #[.int .u64 (seedN s : Int)] 149)) w1.heap.size (seedN s) from new_at _ _); have HS4 := Lib.hid (si_below HS1.out (bl_all (Below.refl _ _) (.cells #[.int .u64 (seedN s : Int)] 149)))))
  have hgq := si_lt HS1.out
  generalize hwg : w1.alloc (.cells #[.int .u64 (seedN s : Int)] 149) = W1 at HD4 HS4 ⊢
  generalize w1.heap.size = g at HD4 hgq ⊢
  clear HS1 hwg hs0 SM GD HG HSM NW
  go_loopw [10, 11] (fun lv iv wr => ∃ (k : Nat), k ≤ n ∧ iv = .int .i64 (k : Int) ∧ Hid (Row KA 107 wr q (fun j => j ≠ g ∧ q + 1 < j) lv (scL F k (seedN s))) ∧ Hid (DAt 149 wr g (stN F k (seedN s))) ∧ Hid (SI 93 w q c0 c1 c2 c3 c4 a0 a1 a2 a3 a4 a5 a6 a7 wr))
    (fun _ i _ => n - (intOf i).toNat)
  case atStart => exact ⟨0, Nat.zero_le _, rfl, Lib.hid (row_nil _ _ _ _ _), HD4, HS4⟩
  case round =>
    obtain ⟨k, hk, rfl, hrow, hd, hsi⟩ := hrel
    clear HD4 HS4
    by_cases hlt : k < n
    · have hlt' : (k : Int) < (n : Int) := by omega
      obtain ⟨f0, f1, f2, f3, f4⟩ := si_cf hsi.out
      obtain ⟨e0, e1, e2, e3, e4, e5, e6, e7⟩ := si_ws hsi.out
      have HA1 := Lib.hid (HA.out wr g _ (HLS.out k) hd.out)
      have hx := Lib.hid (scL_succ F k (seedN s))
      have hst : stN F (k + 1) (seedN s) = (F (stN F k (seedN s))).2 := rfl
      have HST := Lib.hid hst
      clear hst
      generalize F (stN F k (seedN s)) = ac at HA1 hx HST
      obtain ⟨A0, c0', rfl, hc0, _⟩ := row_reads hrow.out
      have hL := Lib.hid (scL_len F k (seedN s))
      go_wp2_with (first
        | (go_at_call 50; refine HA1.out.mono ?_; rintro e w5 ⟨v5, rfl, hr5, hd5, ho5⟩; have hs5 := si_only hsi.out ho5 hgq; have hrow5 := row_only hrow.out ho5 (fun k hk => hk.1); clear f0 f1 f2 f3 f4 e0 e1 e2 e3 e4 e5 e6 e7; obtain ⟨A5, c5, rfl⟩ := Kd.R_slice hr5; have HR5 := Lib.hid hr5; have HD5 := Lib.hid hd5; have HS5 := Lib.hid hs5; have HROW5 := Lib.hid hrow5; have HSZ := Lib.hid ho5.size; clear hr5 hd5 hs5 hrow5 ho5)
        | ((with_reducible refine gate_builtin (b := .append) (xs := #[.tmp 35, .tmp 40]) rfl ?_); at_builtin; refine row_append_list (d := KA) (base := q) (w := w5.alloc (.cells (acells ac.1 (.slice A5 ac.1.r.data.length c5)) 107)) (ok := fun j => j ≠ g ∧ q + 1 < j) (okp := fun j => wr.heap.size ≤ j ∧ j < w5.heap.size) (xs := scL F k (seedN s)) (ys := [ac.1]) (m := 1) (c2 := 1) (A := some ⟨w5.heap.size, 0, none⟩) rfl (.tmp 35) (.tmp 40) 125 107 (.agg #[.int .i64 0, .int .i64 0, .int .i64 0, .int .u64 0, .int .i64 0, .int .i64 0, .int .i64 0, .slice none 0 0]) 80 rfl Try.underlying125 info107 rfl (by decide) (by omega) rfl rfl ?aO ?aM ?aP ?aF ?aS ?aL ?_; (case aO => exact row_step HROW5.out (fun j _ hj => Below.heap_alloc _ _ _ hj)); (case aM => exact made_boxA ac.1 HR5.out (Nat.le_of_lt (Nat.lt_of_succ_lt (si_lt hsi.out)))); (case aP => exact fun j hj => ⟨⟨fun he => by have := d_lt hd.out; omega, by have := si_lt hsi.out; omega⟩, fun he => by have := (row_own_g (row_bound hrow.out) j he.symm).2.2; omega⟩); (case aF => exact fun j hj => by have h1 := d_lt HD5.out; have h2 := si_lt HS5.out; rw [World.size_alloc] at hj; exact ⟨by omega, by omega⟩); (case aS => have h2 := si_lt HS5.out; rw [World.size_alloc]; omega); (case aL => rw [hL.out]; omega); intro v6 w6 hrow6 hgr6 hat6; have HROW6 := Lib.hid hrow6; have HGR6 := Lib.hid hgr6; clear hrow6 hgr6 hat6))
      go_wp2_with fail
      refine ⟨⟨k + 1, by omega, by go_num, ?_, ?_, ?_⟩, by simp [intOf]; omega⟩
      · rw [hx.out]
        exact HROW6
      · rw [HST.out]
        exact Lib.hid (keep_at_grown (old_at HD5.out _) HGR6.out (fun he => (row_own_g hrow.out g he.symm).1 rfl))
      · exact Lib.hid (si_grown (si_below HS5.out (bl_all (Below.refl _ _) _)) HGR6.out (fun j hj => (row_own_g hrow.out j hj).2))
    · have hlt' : ¬ (k : Int) < (n : Int) := by omega
      obtain rfl : k = n := by omega
      go_wp2_with fail
      go_ret
      refine ⟨_, rfl, ?_, ?_⟩
      · have h1 := row_mono (ok' := fun _ => True) hrow.out (fun _ _ => trivial)
        rw [← HQ.out] at h1
        exact h1
      · exact hsi.out.2.2.1
/-- a script whatever the settings and the weights -/
theorem rscript_any (s : Nat) (n : Int) (c0 c1 c2 c3 c4 a0 a1 a2 a3 a4 a5 a6 a7 : Int) (w : World) (hs : s < 18446744073709551616) :
    Calls Try.prog 58 #[.int .u64 (s : Int), Cf c0 c1 c2 c3 c4, .int .i64 n, W8 a0 a1 a2 a3 a4 a5 a6 a7] w fun e w' => ∃ v, e = .returned v ∧ Row KA 107 w' w.heap.size (fun _ => True) v (scrG n c0 c1 c2 c3 c4 a0 a1 a2 a3 a4 a5 a6 a7 s) ∧ Below w.heap.size w w' := by
  by_cases hb : n < 0 ∨ 1000 < n ∨ reqGood c0 c1 c2 c3 c4 = false ∨ sum8 a0 a1 a2 a3 a4 a5 a6 a7 = 0
  · rw [show scrG n c0 c1 c2 c3 c4 a0 a1 a2 a3 a4 a5 a6 a7 s = [] from if_pos hb]
    exact (rscript_no s n c0 c1 c2 c3 c4 a0 a1 a2 a3 a4 a5 a6 a7 w hb).mono fun e w' ⟨he, hbl⟩ => ⟨_, he, row_nil _ _ _ _ _, hbl⟩
  · rw [show scrG n c0 c1 c2 c3 c4 a0 a1 a2 a3 a4 a5 a6 a7 s = scL (actN c0 a0 a1 a2 a3 a4 a5 a6 a7) n.toNat (seedN s) from if_neg hb]
    have h1 : ¬ n < 0 := fun h => hb (.inl h)
    have h2 : ¬ 1000 < n := fun h => hb (.inr (.inl h))
    have h3 : reqGood c0 c1 c2 c3 c4 = true := by
      cases h : reqGood c0 c1 c2 c3 c4 with
      | true => rfl
      | false => exact absurd (.inr (.inr (.inl h))) hb
    have h4 : sum8 a0 a1 a2 a3 a4 a5 a6 a7 ≠ 0 := fun h => hb (.inr (.inr (.inr h)))
    obtain ⟨m, rfl⟩ := Int.eq_ofNat_of_zero_le (show 0 ≤ n by omega)
    exact rscript_with (actN c0 a0 a1 a2 a3 a4 a5 a6 a7) s m c0 c1 c2 c3 c4 a0 a1 a2 a3 a4 a5 a6 a7 w hs (by omega) h3 h4 (fun x hx => actN_live hx) (fun W g x hx hd => ract_c g x c0 c1 c2 c3 c4 a0 a1 a2 a3 a4 a5 a6 a7 W hx h3 (good_c0 h3).1 (good_c0 h3).2 h4 hd)
end Go.Proofs.Ytoobbolaoldacaa.DiceW
