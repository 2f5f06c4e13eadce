/-
  Dice: a request, the reference's (printed by tools/mkdicerr.py).
-/
import Derived.Test.YtoobbolaoldacaaDiceR
import Derived.LoopTactic
namespace Go.Proofs.Ytoobbolaoldacaa.DiceW
open Go.RowKit Go.Proofs.Ytoobbolaoldacaa Go.Proofs.Ytoobbolaoldacaa.Dice Go.Proofs.Ytoobbolaoldacaa.DiceP Go.Proofs.Ytoobbolaoldacaa.RowOwn Go.Proofs.Ytoobbolaoldacaa.CloneB Go.Proofs.YtoobbolaoldacaaW.PrintWords Go.Proofs.YtoobbolaoldacaaW.PrintLast Go.Proofs.YtoobbolaoldacaaW.PrintMore
set_option linter.unusedVariables false
theorem ref_good28 (a b c d e : Int) : twainref28_Good.f a b c d e = some (reqGood a b c d e) := by
  unfold twainref28_Good.f reqGood
  by_cases h1 : 4 ≤ a
  · by_cases h2 : a ≤ 256
    · by_cases h3 : a.tmod 4 = 0
      · by_cases h4 : 3 ≤ b
        · by_cases h5 : b ≤ 16
          · by_cases h6 : 1 ≤ c
            · by_cases h7 : c ≤ 16
              · by_cases h8 : 1 ≤ d
                · by_cases h9 : d ≤ 64
                  · by_cases h10 : 2 ≤ e
                    · simp [h1, h2, h3, h4, h5, h6, h7, h8, h9, h10]
                    · simp [h10]
                  · simp [h9]
                · simp [h8]
              · simp [h7]
            · simp [h6]
          · simp [h5]
        · simp [h4]
      · simp [h3]
    · simp [h2]
  · simp [h1]
/-- a request's boxes: the settings, what is handed back, and the request at b -/
def RJ (w : World) (g b : Nat) (c0 c1 c2 c3 c4 : Int) (x : Nat) (rc : Array Value) (W : World) : Prop :=
  W.heap[w.heap.size]? = some (.cells #[.int .i64 c0, .int .i64 c1, .int .i64 c2, .int .i64 c3, .int .i64 c4] 92 (0, 0)) ∧ W.heap[w.heap.size + 1]? = some (.cells Z4 103 (0, 0)) ∧ W.heap[b]? = some (.cells rc 103 (0, 0)) ∧ DAt 149 W g x ∧ OnlyS (· = g) w W ∧ g < w.heap.size ∧ w.heap.size + 1 < b
section
variable {w W W' : World} {g b x y : Nat} {c0 c1 c2 c3 c4 : Int} {rc : Array Value}
theorem rj_r (h : RJ w g b c0 c1 c2 c3 c4 x rc W) : W.heap[b]? = some (.cells rc 103 (0, 0)) := h.2.2.1
theorem rj_d (h : RJ w g b c0 c1 c2 c3 c4 x rc W) : DAt 149 W g x := h.2.2.2.1
theorem rj_o (h : RJ w g b c0 c1 c2 c3 c4 x rc W) : OnlyS (· = g) w W := h.2.2.2.2.1
theorem rj_c (h : RJ w g b c0 c1 c2 c3 c4 x rc W) : W.cell? ⟨w.heap.size, 0, none⟩ = some (.int .i64 c0) := blk_cell h.1 0
theorem rj_dice (h : RJ w g b c0 c1 c2 c3 c4 x rc W) (hd : DAt 149 W' g y) (ho : OnlyS (· = g) W W') : RJ w g b c0 c1 c2 c3 c4 y rc W' :=
  have hg := h.2.2.2.2.2.1
  have hb := h.2.2.2.2.2.2
  ⟨blk_only h.1 ho (by omega), blk_only h.2.1 ho (by omega), blk_only h.2.2.1 ho (by omega), hd, h.2.2.2.2.1.trans ho (fun _ hk => .inl hk), hg, hb⟩
theorem rj_set (h : RJ w g b c0 c1 c2 c3 c4 x rc W) (j : Nat) (u : Value) : RJ w g b c0 c1 c2 c3 c4 x (rc.setIfInBounds j u) (W.setCell ⟨b, j, none⟩ u) :=
  have hg := h.2.2.2.2.2.1
  have hb := h.2.2.2.2.2.2
  ⟨far_at h.1 (by show _ ≠ b; omega) u, far_at h.2.1 (by show _ ≠ b; omega) u, set_at h.2.2.1 j u, far_at h.2.2.2.1 (by show _ ≠ b; omega) u, h.2.2.2.2.1.set _ _ (.inr (by show _ ≤ b; omega)), hg, hb⟩
end
theorem rj_below {w W W' : World} {g b x : Nat} {c0 c1 c2 c3 c4 : Int} {rc : Array Value} (h : RJ w g b c0 c1 c2 c3 c4 x rc W) (hb : Below W.heap.size W W') : RJ w g b c0 c1 c2 c3 c4 x rc W' :=
  ⟨keep_at_all h.1 hb, keep_at_all h.2.1 hb, keep_at_all h.2.2.1 hb, d_below h.2.2.2.1 hb, h.2.2.2.2.1.below hb, h.2.2.2.2.2⟩
theorem rj_grown {w W W' : World} {g b x : Nat} {c0 c1 c2 c3 c4 : Int} {rc : Array Value} {row : Option Nat} (h : RJ w g b c0 c1 c2 c3 c4 x rc W) (hg : W.grownBy W' row) (hr : ∀ k, row = some k → b < k) : RJ w g b c0 c1 c2 c3 c4 x rc W' :=
  have h1 := h.2.2.2.2.2.1
  have h2 := h.2.2.2.2.2.2
  ⟨keep_at_grown h.1 hg (fun he => by have := hr _ he.symm; omega), keep_at_grown h.2.1 hg (fun he => by have := hr _ he.symm; omega), keep_at_grown h.2.2.1 hg (fun he => by have := hr _ he.symm; omega), keep_at_grown h.2.2.2.1 hg (fun he => by have := hr _ he.symm; omega), h.2.2.2.2.1.grown hg (fun k hk => .inr (by have := hr _ hk; omega)), h.2.2.2.2.2⟩
theorem r_low {w1 w2 : World} {S : Nat → Prop} {base : Nat} {v : Value} {xs : List Int} (h : Kd.R KB 5 w1 base (fun _ => True) v xs) (ho : OnlyS S w1 w2) (hS : ∀ k, S k → k < base) : Kd.R KB 5 w2 base (fun _ => True) v xs :=
  Kd.R_mono (Kd.R_step (Kd.R_bound h) (fun k hk hlt => ho.block k hlt (fun he => by have := hk.2.1; have := hS k he; omega))) (fun _ _ => trivial)
theorem C_one {W : World} {g : Nat} {t : Int} (h : W.heap[g]? = some (.cells #[.int .u8 t] 5 (0, 0))) : Kd.C KB W (some ⟨g, 0, none⟩) 1 [t] := by
  refine ⟨rfl, by decide, fun _ => ⟨_, rfl, fun j p hj => ⟨[.int .u8 p], rfl, rfl, fun i u hu => ?_⟩⟩⟩
  match j, hj with
  | 0, hj =>
    injection hj with hj
    subst hj
    match i, hu with
    | 0, hu => injection hu with hu; subst hu; exact blk_cell h 0
    | i + 1, hu => simp at hu
  | j + 1, hj => simp at hj
theorem own_ge' {w : World} {base : Nat} {v : Value} {xs : List Int} (h : Kd.R KB 5 w base (fun _ => True) v xs) (q : Nat) (hq : v.ownBlock = some q) : base ≤ q :=
  (row_own_g (row_bound (.inl h : Row KB 5 w base _ v xs)) q hq).2.1
set_option maxRecDepth 20000 in
set_option maxHeartbeats 4000000 in
theorem rrequest_c (g x : Nat) (c0 c1 c2 c3 c4 : Int) (w : World) (hl : Live x) (hgood : reqGood c0 c1 c2 c3 c4 = true) (hs : 1 ≤ c0) (hs2 : c0 ≤ 256) (h : DAt 149 w g x) :
    Calls Try.prog 49 #[.pointer (some ⟨g, 0, none⟩), Cf c0 c1 c2 c3 c4] w (ReqQ 149 w g (reqN c0 x)) := by
  have hgw := d_lt h
  have GD := Lib.hid (fun w => twainref28_Good.calls c0 c1 c2 c3 c4 true w (by rw [ref_good28, hgood]))
  have hcfg : ((w.alloc (.cells #[.int .i64 c0, .int .i64 c1, .int .i64 c2, .int .i64 c3, .int .i64 c4] 92)).alloc (.cells Z4 103)).heap[w.heap.size]? = some (.cells #[.int .i64 c0, .int .i64 c1, .int .i64 c2, .int .i64 c3, .int .i64 c4] 92 (0, 0)) := old_at (new_at _ _) _
  have hres : ((w.alloc (.cells #[.int .i64 c0, .int .i64 c1, .int .i64 c2, .int .i64 c3, .int .i64 c4] 92)).alloc (.cells Z4 103)).heap[w.heap.size + 1]? = some (.cells Z4 103 (0, 0)) := new_at1 _ _ _
  have hd0 : DAt 149 ((w.alloc (.cells #[.int .i64 c0, .int .i64 c1, .int .i64 c2, .int .i64 c3, .int .i64 c4] 92)).alloc (.cells Z4 103)) g x := old_at (old_at h _) _
  have ho0 : OnlyS (· = g) w ((w.alloc (.cells #[.int .i64 c0, .int .i64 c1, .int .i64 c2, .int .i64 c3, .int .i64 c4] 92)).alloc (.cells Z4 103)) := ((OnlyS.refl _ _).alloc _).alloc _
  have HD0 := Lib.hid hd0
  have HO0 := Lib.hid ho0
  have HC0 := Lib.hid hcfg
  have HR0 := Lib.hid hres
  clear h hgood hcfg hres hd0 ho0
  go_enter Try.func49, Try.ntmps49
  go_upto_region 1 with (fail)
  generalize (w.alloc (.cells #[.int .i64 c0, .int .i64 c1, .int .i64 c2, .int .i64 c3, .int .i64 c4] 92)).alloc (.cells Z4 103) = W0 at HD0 HO0 HC0 HR0 ⊢
  have f0 := blk_cell HC0.out 0
  have f1 := blk_cell HC0.out 1
  have f2 := blk_cell HC0.out 2
  have f3 := blk_cell HC0.out 3
  have f4 := blk_cell HC0.out 4
  go_upto_region 3 with (first
    | (go_at_call 86; refine (GD.out _).mono ?_; rintro e w1 ⟨rfl, hb1⟩; have HD1 := Lib.hid (d_below HD0.out hb1); have HO1 := Lib.hid (HO0.out.below hb1); have HC1 := Lib.hid (keep_at_all HC0.out hb1); have HR1 := Lib.hid (keep_at_all HR0.out hb1); clear f0 f1 f2 f3 f4 hb1))
  clear HD0 HO0 HC0 HR0 GD
  have BL := Lib.hid (rbelow g x 5 w1 hl (by decide) HD1.out)
  have hy : Live (lessS 5 x) := lessS_live hl
  have t0 := lessN_le (n := 5) (x := x)
  have t5 := lessN_lt (n := 5) (x := x) (by decide)
  go_upto_region 4 with (first
    | (go_at_call 44; (with_reducible refine BL.out.mono ?_); rintro e w2 ⟨rfl, hd2, ho2⟩; have HD2 := Lib.hid hd2; have HO2 := Lib.hid (HO1.out.trans ho2 (fun k hk => .inl hk)); have HC2 := Lib.hid (blk_only (S := fun k => k = g) HC1.out ho2 (fun he => by omega)); have HR2 := Lib.hid (blk_only (S := fun k => k = g) HR1.out ho2 (fun he => by omega)); clear hd2 ho2))
  clear HD1 HO1 HC1 HR1 BL
  by_cases h4 : lessN 5 x = 4
  · have E : reqN c0 x = (⟨2, 0, 0, []⟩, lessS 5 x) := by unfold reqN; rw [h4, if_neg (by decide), if_neg (by decide)]
    have EE := Lib.hid E
    rw [h4]
    clear E t0 t5 h4 hy hl hs hs2
    obtain ⟨y0, y1, y2, y3⟩ := fz4 HR2.out
    obtain ⟨u0, u1, u2, u3⟩ := cl4 HR2.out
    go_wp2_with fail
    refine bodyPost_ret (results_cell_row rfl _ _ (w.heap.size + 1) 103 #[.int .i64 2, .int .i64 0, .int .i64 0, .slice none 0 0] (0, 0) _ rfl (set4 HR2.out) Try.underlying103 rfl (by kernel_rfl)) rfl ?_
    show ReqQ 149 w g (reqN c0 x) _ _
    rw [EE.out]
    have o4 := only4 w2 (w.heap.size + 1) (.int .i64 2) (.int .i64 0) (.int .i64 0) (.slice none 0 0)
    exact ⟨_, rfl, Kd.R_nil _ _ _ _ _, d_only HD2.out o4 (fun he => by omega), HO2.out.trans o4 (fun k hk => .inr (by omega))⟩
  · obtain ⟨m, hm⟩ : ∃ m, (if c0 < 8 then c0 else 8) = m := ⟨_, rfl⟩
    have hm1 : 1 ≤ m := by rw [← hm]; split <;> omega
    have hm8 : m ≤ 8 := by rw [← hm]; split <;> omega
    have hmc : m ≤ c0 := by rw [← hm]; split <;> omega
    have f0 := blk_cell HC2.out 0
    have HM := Lib.hid hm
    clear hm
    have HT5 := Lib.hid (And.intro t0 t5)
    have H4 := Lib.hid h4
    have hx4 : ¬ lessN 5 x = 4 := h4
    go_upto_if 24 with (fail)
    go_cut [6] (fun v6 wc => v6 = .int .i64 m ∧ w2 = wc)
    case first =>
      by_cases hc : c0 < 8
      · have hm := HM.out
        rw [if_pos hc] at hm
        subst hm
        go_wp2_with fail
        go_meet
        exact ⟨rfl, rfl⟩
      · have hm := HM.out
        rw [if_neg hc] at hm
        subst hm
        go_wp2_with fail
        go_meet
        exact ⟨rfl, rfl⟩
    obtain ⟨rfl, rfl⟩ := hcut
    have hm := HM.out
    clear HM HT5 H4 f0
    rcases (show lessN 5 x = 0 ∨ lessN 5 x = 1 ∨ lessN 5 x = 2 ∨ lessN 5 x = 3 by omega) with ht | ht | ht | ht
    · have E : reqN c0 x = (⟨0, spanO c0 (lessS 5 x), spanL c0 (lessS 5 x), []⟩, spanS c0 (lessS 5 x)) := by unfold reqN; rw [ht, if_pos (by decide)]
      rw [ht]
      have hL : spanL c0 (lessS 5 x) = 1 + lessN m (lessS 5 x) := by unfold spanL; rw [hm]
      have hX : spanX c0 (lessS 5 x) = lessS m (lessS 5 x) := by unfold spanX; rw [hm]
      unfold spanO spanS at E
      rw [hL, hX] at E
      generalize lessS 5 x = y at hy HD2 E hL hX
      clear hL hX
      have BL2 := Lib.hid (rbelow g y m w2 hy (by omega) HD2.out)
      have hy2 : Live (lessS m y) := lessS_live hy
      have v0 := lessN_le (n := m) (x := y)
      have v1 := lessN_lt (n := m) (x := y) hm1
      generalize lessN m y = u at BL2 E v0 v1
      generalize lessS m y = y2 at BL2 E hy2
      obtain ⟨un, rfl⟩ := Int.eq_ofNat_of_zero_le v0
      have BL3 := Lib.hid (fun W (hW : DAt 149 W g y2) => rbelow g y2 (c0 - (1 + (un : Int)) + 1) W hy2 (by omega) hW)
      have hz : Live (lessS (c0 - (1 + (un : Int)) + 1) y2) := lessS_live hy2
      generalize lessN (c0 - (1 + (un : Int)) + 1) y2 = O at BL3 E
      generalize lessS (c0 - (1 + (un : Int)) + 1) y2 = z at BL3 E hz
      have f0 := blk_cell HC2.out 0
      have EE := Lib.hid E
      clear E hy hy2 v0
      go_wp2_with (first
        | (go_at_call 44; (with_reducible refine BL2.out.mono ?_); rintro e w3 ⟨rfl, hd3, ho3⟩; have HD3 := Lib.hid hd3; have HO3 := Lib.hid (HO2.out.trans ho3 (fun k hk => .inl hk)); have HC3 := Lib.hid (blk_only (S := fun k => k = g) HC2.out ho3 (fun he => by omega)); have HR3 := Lib.hid (blk_only (S := fun k => k = g) HR2.out ho3 (fun he => by omega)); clear hd3 ho3 f0; have f0 := blk_cell HC3.out 0)
        | (go_at_call 44; (with_reducible refine (BL3.out _ HD3.out).mono ?_); rintro e w4 ⟨rfl, hd4, ho4⟩; have HJ4 := Lib.hid (show RJ w g w4.heap.size c0 c1 c2 c3 c4 z #[.int .i64 0, .int .i64 O, .int .i64 (1 + (un : Int)), .slice none 0 0] (w4.alloc (.cells #[.int .i64 0, .int .i64 O, .int .i64 (1 + (un : Int)), .slice none 0 0] 103)) from ⟨old_at (blk_only (S := fun k => k = g) HC3.out ho4 (fun he => by omega)) _, old_at (blk_only (S := fun k => k = g) HR3.out ho4 (fun he => by omega)) _, new_at _ _, old_at hd4 _, ((HO3.out.trans ho4 (fun k hk => .inl hk)).alloc _), hgw, lt_at (blk_only (S := fun k => k = g) HR3.out ho4 (fun he => by omega))⟩); clear hd4 ho4 f0))
      generalize hbq : w4.heap.size = b at HJ4 ⊢
      generalize w4.alloc (.cells #[.int .i64 0, .int .i64 O, .int .i64 (1 + (un : Int)), .slice none 0 0] 103) = w5 at HJ4 ⊢
      clear hbq BL2 BL3 HC3 HR3 HO3 HD3 HC2 HR2 HO2 HD2
      obtain ⟨k0, k1, k2, k3⟩ := cl4 (rj_r HJ4.out)
      obtain ⟨y0, y1, yy2, y3⟩ := fz4 HJ4.out.2.1
      obtain ⟨u0, u1, u2, u3⟩ := cl4 HJ4.out.2.1
      refine wp_loop_rounds 2 ?_
      rw [rounds_succ]
      go_wp2_with fail
      refine bodyPost_ret (results_cell_row rfl _ _ (w.heap.size + 1) 103 #[.int .i64 0, .int .i64 O, .int .i64 (1 + (un : Int)), .slice none 0 0] (0, 0) _ rfl (set4 HJ4.out.2.1) Try.underlying103 rfl (by kernel_rfl)) rfl ?_
      show ReqQ 149 w g (reqN c0 x) _ _
      rw [EE.out]
      have o4 := only4 w5 (w.heap.size + 1) (.int .i64 0) (.int .i64 O) (.int .i64 (1 + (un : Int))) (.slice none 0 0)
      exact ⟨_, rfl, Kd.R_nil _ _ _ _ _, d_only (rj_d HJ4.out) o4 (fun he => by omega), (rj_o HJ4.out).trans o4 (fun k hk => .inr (by omega))⟩
    · have E : reqN c0 x = (⟨0, spanO c0 (lessS 5 x), spanL c0 (lessS 5 x), []⟩, spanS c0 (lessS 5 x)) := by unfold reqN; rw [ht, if_pos (by decide)]
      rw [ht]
      have hL : spanL c0 (lessS 5 x) = 1 + lessN m (lessS 5 x) := by unfold spanL; rw [hm]
      have hX : spanX c0 (lessS 5 x) = lessS m (lessS 5 x) := by unfold spanX; rw [hm]
      unfold spanO spanS at E
      rw [hL, hX] at E
      generalize lessS 5 x = y at hy HD2 E hL hX
      clear hL hX
      have BL2 := Lib.hid (rbelow g y m w2 hy (by omega) HD2.out)
      have hy2 : Live (lessS m y) := lessS_live hy
      have v0 := lessN_le (n := m) (x := y)
      have v1 := lessN_lt (n := m) (x := y) hm1
      generalize lessN m y = u at BL2 E v0 v1
      generalize lessS m y = y2 at BL2 E hy2
      obtain ⟨un, rfl⟩ := Int.eq_ofNat_of_zero_le v0
      have BL3 := Lib.hid (fun W (hW : DAt 149 W g y2) => rbelow g y2 (c0 - (1 + (un : Int)) + 1) W hy2 (by omega) hW)
      have hz : Live (lessS (c0 - (1 + (un : Int)) + 1) y2) := lessS_live hy2
      generalize lessN (c0 - (1 + (un : Int)) + 1) y2 = O at BL3 E
      generalize lessS (c0 - (1 + (un : Int)) + 1) y2 = z at BL3 E hz
      have f0 := blk_cell HC2.out 0
      have EE := Lib.hid E
      clear E hy hy2 v0
      go_wp2_with (first
        | (go_at_call 44; (with_reducible refine BL2.out.mono ?_); rintro e w3 ⟨rfl, hd3, ho3⟩; have HD3 := Lib.hid hd3; have HO3 := Lib.hid (HO2.out.trans ho3 (fun k hk => .inl hk)); have HC3 := Lib.hid (blk_only (S := fun k => k = g) HC2.out ho3 (fun he => by omega)); have HR3 := Lib.hid (blk_only (S := fun k => k = g) HR2.out ho3 (fun he => by omega)); clear hd3 ho3 f0; have f0 := blk_cell HC3.out 0)
        | (go_at_call 44; (with_reducible refine (BL3.out _ HD3.out).mono ?_); rintro e w4 ⟨rfl, hd4, ho4⟩; have HJ4 := Lib.hid (show RJ w g w4.heap.size c0 c1 c2 c3 c4 z #[.int .i64 0, .int .i64 O, .int .i64 (1 + (un : Int)), .slice none 0 0] (w4.alloc (.cells #[.int .i64 0, .int .i64 O, .int .i64 (1 + (un : Int)), .slice none 0 0] 103)) from ⟨old_at (blk_only (S := fun k => k = g) HC3.out ho4 (fun he => by omega)) _, old_at (blk_only (S := fun k => k = g) HR3.out ho4 (fun he => by omega)) _, new_at _ _, old_at hd4 _, ((HO3.out.trans ho4 (fun k hk => .inl hk)).alloc _), hgw, lt_at (blk_only (S := fun k => k = g) HR3.out ho4 (fun he => by omega))⟩); clear hd4 ho4 f0))
      generalize hbq : w4.heap.size = b at HJ4 ⊢
      generalize w4.alloc (.cells #[.int .i64 0, .int .i64 O, .int .i64 (1 + (un : Int)), .slice none 0 0] 103) = w5 at HJ4 ⊢
      clear hbq BL2 BL3 HC3 HR3 HO3 HD3 HC2 HR2 HO2 HD2
      obtain ⟨k0, k1, k2, k3⟩ := cl4 (rj_r HJ4.out)
      obtain ⟨y0, y1, yy2, y3⟩ := fz4 HJ4.out.2.1
      obtain ⟨u0, u1, u2, u3⟩ := cl4 HJ4.out.2.1
      refine wp_loop_rounds 2 ?_
      rw [rounds_succ]
      go_wp2_with fail
      refine bodyPost_ret (results_cell_row rfl _ _ (w.heap.size + 1) 103 #[.int .i64 0, .int .i64 O, .int .i64 (1 + (un : Int)), .slice none 0 0] (0, 0) _ rfl (set4 HJ4.out.2.1) Try.underlying103 rfl (by kernel_rfl)) rfl ?_
      show ReqQ 149 w g (reqN c0 x) _ _
      rw [EE.out]
      have o4 := only4 w5 (w.heap.size + 1) (.int .i64 0) (.int .i64 O) (.int .i64 (1 + (un : Int))) (.slice none 0 0)
      exact ⟨_, rfl, Kd.R_nil _ _ _ _ _, d_only (rj_d HJ4.out) o4 (fun he => by omega), (rj_o HJ4.out).trans o4 (fun k hk => .inr (by omega))⟩
    · have E : reqN c0 x = (⟨1, spanO c0 (lessS 5 x), spanL c0 (lessS 5 x), (dataN (spanL c0 (lessS 5 x)).toNat (spanS c0 (lessS 5 x))).1⟩, (dataN (spanL c0 (lessS 5 x)).toNat (spanS c0 (lessS 5 x))).2) := by unfold reqN; rw [ht, if_neg (by decide), if_pos (by decide)]
      rw [ht]
      have hL : spanL c0 (lessS 5 x) = 1 + lessN m (lessS 5 x) := by unfold spanL; rw [hm]
      have hX : spanX c0 (lessS 5 x) = lessS m (lessS 5 x) := by unfold spanX; rw [hm]
      unfold spanO spanS at E
      rw [hL, hX] at E
      generalize lessS 5 x = y at hy HD2 E hL hX
      clear hL hX
      have BL2 := Lib.hid (rbelow g y m w2 hy (by omega) HD2.out)
      have hy2 : Live (lessS m y) := lessS_live hy
      have v0 := lessN_le (n := m) (x := y)
      have v1 := lessN_lt (n := m) (x := y) hm1
      generalize lessN m y = u at BL2 E v0 v1
      generalize lessS m y = y2 at BL2 E hy2
      obtain ⟨un, rfl⟩ := Int.eq_ofNat_of_zero_le v0
      have BL3 := Lib.hid (fun W (hW : DAt 149 W g y2) => rbelow g y2 (c0 - (1 + (un : Int)) + 1) W hy2 (by omega) hW)
      have hz : Live (lessS (c0 - (1 + (un : Int)) + 1) y2) := lessS_live hy2
      generalize lessN (c0 - (1 + (un : Int)) + 1) y2 = O at BL3 E
      generalize lessS (c0 - (1 + (un : Int)) + 1) y2 = z at BL3 E hz
      have f0 := blk_cell HC2.out 0
      have EE := Lib.hid E
      clear E hy hy2 v0
      go_wp2_with (first
        | (go_at_call 44; (with_reducible refine BL2.out.mono ?_); rintro e w3 ⟨rfl, hd3, ho3⟩; have HD3 := Lib.hid hd3; have HO3 := Lib.hid (HO2.out.trans ho3 (fun k hk => .inl hk)); have HC3 := Lib.hid (blk_only (S := fun k => k = g) HC2.out ho3 (fun he => by omega)); have HR3 := Lib.hid (blk_only (S := fun k => k = g) HR2.out ho3 (fun he => by omega)); clear hd3 ho3 f0; have f0 := blk_cell HC3.out 0)
        | (go_at_call 44; (with_reducible refine (BL3.out _ HD3.out).mono ?_); rintro e w4 ⟨rfl, hd4, ho4⟩; have HJ4 := Lib.hid (show RJ w g w4.heap.size c0 c1 c2 c3 c4 z #[.int .i64 1, .int .i64 O, .int .i64 (1 + (un : Int)), .slice none 0 0] (w4.alloc (.cells #[.int .i64 1, .int .i64 O, .int .i64 (1 + (un : Int)), .slice none 0 0] 103)) from ⟨old_at (blk_only (S := fun k => k = g) HC3.out ho4 (fun he => by omega)) _, old_at (blk_only (S := fun k => k = g) HR3.out ho4 (fun he => by omega)) _, new_at _ _, old_at hd4 _, ((HO3.out.trans ho4 (fun k hk => .inl hk)).alloc _), hgw, lt_at (blk_only (S := fun k => k = g) HR3.out ho4 (fun he => by omega))⟩); clear hd4 ho4 f0))
      have hn : (1 + (un : Int)).toNat = 1 + un := by omega
      have E2 := EE.out
      rw [hn] at E2
      have EE := Lib.hid E2
      clear E2
      generalize hbq : w4.heap.size = b at HJ4 ⊢
      generalize w4.alloc (.cells #[.int .i64 1, .int .i64 O, .int .i64 (1 + (un : Int)), .slice none 0 0] 103) = w5 at HJ4 ⊢
      clear hbq BL2 BL3 HC3 HR3 HO3 HD3 HC2 HR2 HO2 HD2
      have hbg := HJ4.out.2.2.2.2.2.2
      have hun : un ≤ 7 := by omega
      go_loopw [9] (fun iv wr => ∃ (k y : Nat) (acc : List Int) (v : Value), k ≤ 1 + un ∧ Hid (acc.length = 16 * k) ∧ iv = .int .i64 (k : Int) ∧ Hid (Live y) ∧ Hid (acc ++ (dataN (1 + un - k) y).1 = (dataN (1 + un) z).1) ∧ Hid ((dataN (1 + un - k) y).2 = (dataN (1 + un) z).2) ∧ Hid (Kd.R KB 5 wr (b + 1) (fun _ => True) v acc) ∧ Hid (RJ w g b c0 c1 c2 c3 c4 y #[.int .i64 1, .int .i64 O, .int .i64 (1 + (un : Int)), v] wr))
        (fun i _ => (1 + un) - (intOf i).toNat)
      case atStart => exact ⟨0, z, [], .slice none 0 0, Nat.zero_le _, Lib.hid rfl, rfl, Lib.hid hz, Lib.hid rfl, Lib.hid rfl, Lib.hid (Kd.R_nil _ _ _ _ _), HJ4⟩
      case round =>
        obtain ⟨k, y, acc, v, hk, hacc, rfl, hly, he1, he2, hrow, hj⟩ := hrel
        clear HJ4 hz
        by_cases hlt : k < 1 + un
        · have hlt' : (k : Int) < 1 + (un : Int) := by omega
          have BL := Lib.hid (rbelow g y 256 wr hly.out (by decide) (rj_d hj.out))
          obtain ⟨i, hi⟩ : ∃ i, 1 + un - k = i + 1 := ⟨1 + un - k - 1, by omega⟩
          have hi2 : 1 + un - (k + 1) = i := by omega
          have e1 := he1.out
          have e2 := he2.out
          rw [hi, dataN_succ] at e1 e2
          have h0 := lessN_le (n := 256) (x := y)
          have h1 := lessN_lt (n := 256) (x := y) (by decide)
          have hy2 := Lib.hid (lessS_live (n := 256) hly.out)
          rw [← hi2] at e1 e2
          generalize lessN 256 y = t at BL h0 h1 e1 e2
          generalize lessS 256 y = z2 at BL hy2 e1 e2
          have E1 := Lib.hid e1
          have E2 := Lib.hid e2
          have hwrap : IntKind.u8.wrap t = t := by simp [IntKind.wrap, IntKind.bits, IntKind.signed]; omega
          clear e1 e2 hi hi2
          go_wp2_with (go_at_call 44; refine BL.out.mono ?_; rintro e w6 ⟨rfl, hd6, ho6⟩; have HJ6 := Lib.hid (rj_dice hj.out hd6 ho6); have HR6 := Lib.hid (r_low hrow.out ho6 (fun k hk => by omega)); clear hd6 ho6)
          go_loopw [11] (fun jv w7 => ∃ (j : Nat) (v2 : Value), j ≤ 16 ∧ jv = .int .i64 (j : Int) ∧ Hid (Kd.R KB 5 w7 (b + 1) (fun _ => True) v2 (acc ++ List.replicate j t)) ∧ Hid (RJ w g b c0 c1 c2 c3 c4 z2 #[.int .i64 1, .int .i64 O, .int .i64 (1 + (un : Int)), v2] w7))
            (fun i _ => 16 - (intOf i).toNat)
          case atStart => exact ⟨0, v, by decide, rfl, Lib.hid (by show Kd.R KB 5 _ _ _ _ (acc ++ []); rw [List.append_nil]; exact HR6.out), HJ6⟩
          case round =>
            obtain ⟨j, v2, hj16, rfl, hr7, hj7⟩ := hrel
            obtain ⟨cur, hcur⟩ : ∃ cur, acc ++ List.replicate j t = cur := ⟨_, rfl⟩
            rw [hcur] at hr7
            have HLEN := Lib.hid (show cur.length = acc.length + j by rw [← hcur]; simp)
            have HCUR := Lib.hid hcur
            clear hcur
            obtain ⟨A7, c7, rfl⟩ := Kd.R_slice hr7.out
            clear HJ6 HR6 BL
            obtain ⟨k0, k1, k2, k3⟩ := cl4 (rj_r hj7.out)
            obtain ⟨z0, z1, zz2, z3⟩ := fz4 (rj_r hj7.out)
            have hbl := lt_at (rj_r hj7.out)
            by_cases hlj : j < 16
            · have hlj' : (j : Int) < 16 := by omega
              go_wp2_with ((with_reducible refine gate_builtin (b := .append) (xs := #[.tmp 60, .tmp 62]) rfl ?_); at_builtin; go_loud (refine Kd.R_append_rows (Kd.int .u8) (w0 := wr.alloc (.cells #[.int .u8 t] 5)) (b + 1) rfl (.tmp 60) (.tmp 62) 28 5 (.int .u8 0) 1 rfl Try.underlying28 info_u8 rfl (by decide) (by omega) (.slice A7 cur.length c7) cur [t] _ _ _ (fun _ => True) (fun _ => False) rfl rfl (Kd.R_alloc hr7.out _) (C_one (new_at _ _)) (fun _ _ h => h) (fun _ h => h.elim) (fun _ _ => trivial) (Below.refl _ _) (by rw [World.size_alloc]; omega) (by have := hacc.out; have := HLEN.out; omega) ?_); intro v8 w8 ho8 hb8 hg8 hat8; obtain ⟨cur2, hcur2⟩ : ∃ cur2, cur ++ [t] = cur2 := ⟨_, rfl⟩; rw [hcur2] at ho8; have HCUR2 := Lib.hid hcur2; clear hcur2; obtain ⟨A8, c8, rfl⟩ := Kd.R_slice ho8; have HJ8 := Lib.hid (rj_grown (rj_below hj7.out (bl_all (Below.refl _ _) (.cells #[.int .u8 t] 5))) hg8 (fun q hq => own_ge' (Kd.R_alloc hr7.out (.cells #[.int .u8 t] 5)) q hq)); have HO8 := Lib.hid ho8; clear ho8 hb8 hg8 hat8 k0 k1 k2 k3 z0 z1 zz2 z3; obtain ⟨k0, k1, k2, k3⟩ := cl4 (rj_r HJ8.out); obtain ⟨z0, z1, zz2, z3⟩ := fz4 (rj_r HJ8.out))
              go_wp2_with fail
              refine ⟨⟨j + 1, .slice A8 cur2.length c8, by omega, by go_num, ?_, ?_⟩, by simp [intOf]; omega⟩
              rotate_left
              · exact Lib.hid (rj_set HJ8.out 3 _)
              · refine Lib.hid ?_
                have h9 := r_low HO8.out ((OnlyS.refl (· = b) w8).set ⟨b, 3, none⟩ (.slice A8 cur2.length c8) (.inl rfl)) (fun k hk => by omega)
                rw [List.replicate_succ', ← List.append_assoc, HCUR.out, HCUR2.out]
                exact h9
            · have hlj' : ¬ (j : Int) < 16 := by omega
              obtain rfl : j = 16 := by omega
              go_wp2_with fail
              refine ⟨⟨k + 1, z2, cur, _, by omega, ?_, by go_num, hy2, ?_, E2, hr7, hj7⟩, by simp [intOf]; omega⟩
              · exact Lib.hid (by have := hacc.out; have := HLEN.out; omega)
              · exact Lib.hid (by rw [← HCUR.out, List.append_assoc]; exact E1.out)
        · have hlt' : ¬ (k : Int) < 1 + (un : Int) := by omega
          obtain rfl : k = 1 + un := by omega
          have e1 := he1.out
          have e2 := he2.out
          rw [Nat.sub_self] at e1 e2
          replace e1 : acc ++ [] = (dataN (1 + un) z).1 := e1
          rw [List.append_nil] at e1
          have E1 := Lib.hid e1
          have E2 := Lib.hid e2
          clear e1 e2
          obtain ⟨A7, c7, rfl⟩ := Kd.R_slice hrow.out
          obtain ⟨k0, k1, k2, k3⟩ := cl4 (rj_r hj.out)
          obtain ⟨y0, y1, yy2, y3⟩ := fz4 hj.out.2.1
          obtain ⟨u0, u1, u2, u3⟩ := cl4 hj.out.2.1
          go_wp2_with fail
          refine bodyPost_ret (results_cell_row rfl _ _ (w.heap.size + 1) 103 #[.int .i64 1, .int .i64 O, .int .i64 (1 + (un : Int)), .slice A7 acc.length c7] (0, 0) _ rfl (set4 hj.out.2.1) Try.underlying103 rfl (by kernel_rfl)) rfl ?_
          show ReqQ 149 w g (reqN c0 x) _ _
          rw [EE.out]
          have o4 := only4 wr (w.heap.size + 1) (.int .i64 1) (.int .i64 O) (.int .i64 (1 + (un : Int))) (.slice A7 acc.length c7)
          refine ⟨_, rfl, ?_, ?_, (rj_o hj.out).trans o4 (fun k hk => .inr (by omega))⟩
          · show Kd.R KB 5 _ _ _ _ (dataN (1 + un) z).1
            rw [← E1.out]
            exact Kd.R_lower (r_low hrow.out o4 (fun k hk => by omega)) (by omega)
          · show DAt 149 _ g (dataN (1 + un) z).2
            rw [← E2.out]
            exact d_only (rj_d hj.out) o4 (fun he => by omega)
    · have E : reqN c0 x = (⟨1, spanO c0 (lessS 5 x), spanL c0 (lessS 5 x), (dataN (spanL c0 (lessS 5 x)).toNat (spanS c0 (lessS 5 x))).1⟩, (dataN (spanL c0 (lessS 5 x)).toNat (spanS c0 (lessS 5 x))).2) := by unfold reqN; rw [ht, if_neg (by decide), if_pos (by decide)]
      rw [ht]
      have hL : spanL c0 (lessS 5 x) = 1 + lessN m (lessS 5 x) := by unfold spanL; rw [hm]
      have hX : spanX c0 (lessS 5 x) = lessS m (lessS 5 x) := by unfold spanX; rw [hm]
      unfold spanO spanS at E
      rw [hL, hX] at E
      generalize lessS 5 x = y at hy HD2 E hL hX
      clear hL hX
      have BL2 := Lib.hid (rbelow g y m w2 hy (by omega) HD2.out)
      have hy2 : Live (lessS m y) := lessS_live hy
      have v0 := lessN_le (n := m) (x := y)
      have v1 := lessN_lt (n := m) (x := y) hm1
      generalize lessN m y = u at BL2 E v0 v1
      generalize lessS m y = y2 at BL2 E hy2
      obtain ⟨un, rfl⟩ := Int.eq_ofNat_of_zero_le v0
      have BL3 := Lib.hid (fun W (hW : DAt 149 W g y2) => rbelow g y2 (c0 - (1 + (un : Int)) + 1) W hy2 (by omega) hW)
      have hz : Live (lessS (c0 - (1 + (un : Int)) + 1) y2) := lessS_live hy2
      generalize lessN (c0 - (1 + (un : Int)) + 1) y2 = O at BL3 E
      generalize lessS (c0 - (1 + (un : Int)) + 1) y2 = z at BL3 E hz
      have f0 := blk_cell HC2.out 0
      have EE := Lib.hid E
      clear E hy hy2 v0
      go_wp2_with (first
        | (go_at_call 44; (with_reducible refine BL2.out.mono ?_); rintro e w3 ⟨rfl, hd3, ho3⟩; have HD3 := Lib.hid hd3; have HO3 := Lib.hid (HO2.out.trans ho3 (fun k hk => .inl hk)); have HC3 := Lib.hid (blk_only (S := fun k => k = g) HC2.out ho3 (fun he => by omega)); have HR3 := Lib.hid (blk_only (S := fun k => k = g) HR2.out ho3 (fun he => by omega)); clear hd3 ho3 f0; have f0 := blk_cell HC3.out 0)
        | (go_at_call 44; (with_reducible refine (BL3.out _ HD3.out).mono ?_); rintro e w4 ⟨rfl, hd4, ho4⟩; have HJ4 := Lib.hid (show RJ w g w4.heap.size c0 c1 c2 c3 c4 z #[.int .i64 1, .int .i64 O, .int .i64 (1 + (un : Int)), .slice none 0 0] (w4.alloc (.cells #[.int .i64 1, .int .i64 O, .int .i64 (1 + (un : Int)), .slice none 0 0] 103)) from ⟨old_at (blk_only (S := fun k => k = g) HC3.out ho4 (fun he => by omega)) _, old_at (blk_only (S := fun k => k = g) HR3.out ho4 (fun he => by omega)) _, new_at _ _, old_at hd4 _, ((HO3.out.trans ho4 (fun k hk => .inl hk)).alloc _), hgw, lt_at (blk_only (S := fun k => k = g) HR3.out ho4 (fun he => by omega))⟩); clear hd4 ho4 f0))
      have hn : (1 + (un : Int)).toNat = 1 + un := by omega
      have E2 := EE.out
      rw [hn] at E2
      have EE := Lib.hid E2
      clear E2
      generalize hbq : w4.heap.size = b at HJ4 ⊢
      generalize w4.alloc (.cells #[.int .i64 1, .int .i64 O, .int .i64 (1 + (un : Int)), .slice none 0 0] 103) = w5 at HJ4 ⊢
      clear hbq BL2 BL3 HC3 HR3 HO3 HD3 HC2 HR2 HO2 HD2
      have hbg := HJ4.out.2.2.2.2.2.2
      have hun : un ≤ 7 := by omega
      go_loopw [9] (fun iv wr => ∃ (k y : Nat) (acc : List Int) (v : Value), k ≤ 1 + un ∧ Hid (acc.length = 16 * k) ∧ iv = .int .i64 (k : Int) ∧ Hid (Live y) ∧ Hid (acc ++ (dataN (1 + un - k) y).1 = (dataN (1 + un) z).1) ∧ Hid ((dataN (1 + un - k) y).2 = (dataN (1 + un) z).2) ∧ Hid (Kd.R KB 5 wr (b + 1) (fun _ => True) v acc) ∧ Hid (RJ w g b c0 c1 c2 c3 c4 y #[.int .i64 1, .int .i64 O, .int .i64 (1 + (un : Int)), v] wr))
        (fun i _ => (1 + un) - (intOf i).toNat)
      case atStart => exact ⟨0, z, [], .slice none 0 0, Nat.zero_le _, Lib.hid rfl, rfl, Lib.hid hz, Lib.hid rfl, Lib.hid rfl, Lib.hid (Kd.R_nil _ _ _ _ _), HJ4⟩
      case round =>
        obtain ⟨k, y, acc, v, hk, hacc, rfl, hly, he1, he2, hrow, hj⟩ := hrel
        clear HJ4 hz
        by_cases hlt : k < 1 + un
        · have hlt' : (k : Int) < 1 + (un : Int) := by omega
          have BL := Lib.hid (rbelow g y 256 wr hly.out (by decide) (rj_d hj.out))
          obtain ⟨i, hi⟩ : ∃ i, 1 + un - k = i + 1 := ⟨1 + un - k - 1, by omega⟩
          have hi2 : 1 + un - (k + 1) = i := by omega
          have e1 := he1.out
          have e2 := he2.out
          rw [hi, dataN_succ] at e1 e2
          have h0 := lessN_le (n := 256) (x := y)
          have h1 := lessN_lt (n := 256) (x := y) (by decide)
          have hy2 := Lib.hid (lessS_live (n := 256) hly.out)
          rw [← hi2] at e1 e2
          generalize lessN 256 y = t at BL h0 h1 e1 e2
          generalize lessS 256 y = z2 at BL hy2 e1 e2
          have E1 := Lib.hid e1
          have E2 := Lib.hid e2
          have hwrap : IntKind.u8.wrap t = t := by simp [IntKind.wrap, IntKind.bits, IntKind.signed]; omega
          clear e1 e2 hi hi2
          go_wp2_with (go_at_call 44; refine BL.out.mono ?_; rintro e w6 ⟨rfl, hd6, ho6⟩; have HJ6 := Lib.hid (rj_dice hj.out hd6 ho6); have HR6 := Lib.hid (r_low hrow.out ho6 (fun k hk => by omega)); clear hd6 ho6)
          go_loopw [11] (fun jv w7 => ∃ (j : Nat) (v2 : Value), j ≤ 16 ∧ jv = .int .i64 (j : Int) ∧ Hid (Kd.R KB 5 w7 (b + 1) (fun _ => True) v2 (acc ++ List.replicate j t)) ∧ Hid (RJ w g b c0 c1 c2 c3 c4 z2 #[.int .i64 1, .int .i64 O, .int .i64 (1 + (un : Int)), v2] w7))
            (fun i _ => 16 - (intOf i).toNat)
          case atStart => exact ⟨0, v, by decide, rfl, Lib.hid (by show Kd.R KB 5 _ _ _ _ (acc ++ []); rw [List.append_nil]; exact HR6.out), HJ6⟩
          case round =>
            obtain ⟨j, v2, hj16, rfl, hr7, hj7⟩ := hrel
            obtain ⟨cur, hcur⟩ : ∃ cur, acc ++ List.replicate j t = cur := ⟨_, rfl⟩
            rw [hcur] at hr7
            have HLEN := Lib.hid (show cur.length = acc.length + j by rw [← hcur]; simp)
            have HCUR := Lib.hid hcur
            clear hcur
            obtain ⟨A7, c7, rfl⟩ := Kd.R_slice hr7.out
            clear HJ6 HR6 BL
            obtain ⟨k0, k1, k2, k3⟩ := cl4 (rj_r hj7.out)
            obtain ⟨z0, z1, zz2, z3⟩ := fz4 (rj_r hj7.out)
            have hbl := lt_at (rj_r hj7.out)
            by_cases hlj : j < 16
            · have hlj' : (j : Int) < 16 := by omega
              go_wp2_with ((with_reducible refine gate_builtin (b := .append) (xs := #[.tmp 60, .tmp 62]) rfl ?_); at_builtin; go_loud (refine Kd.R_append_rows (Kd.int .u8) (w0 := wr.alloc (.cells #[.int .u8 t] 5)) (b + 1) rfl (.tmp 60) (.tmp 62) 28 5 (.int .u8 0) 1 rfl Try.underlying28 info_u8 rfl (by decide) (by omega) (.slice A7 cur.length c7) cur [t] _ _ _ (fun _ => True) (fun _ => False) rfl rfl (Kd.R_alloc hr7.out _) (C_one (new_at _ _)) (fun _ _ h => h) (fun _ h => h.elim) (fun _ _ => trivial) (Below.refl _ _) (by rw [World.size_alloc]; omega) (by have := hacc.out; have := HLEN.out; omega) ?_); intro v8 w8 ho8 hb8 hg8 hat8; obtain ⟨cur2, hcur2⟩ : ∃ cur2, cur ++ [t] = cur2 := ⟨_, rfl⟩; rw [hcur2] at ho8; have HCUR2 := Lib.hid hcur2; clear hcur2; obtain ⟨A8, c8, rfl⟩ := Kd.R_slice ho8; have HJ8 := Lib.hid (rj_grown (rj_below hj7.out (bl_all (Below.refl _ _) (.cells #[.int .u8 t] 5))) hg8 (fun q hq => own_ge' (Kd.R_alloc hr7.out (.cells #[.int .u8 t] 5)) q hq)); have HO8 := Lib.hid ho8; clear ho8 hb8 hg8 hat8 k0 k1 k2 k3 z0 z1 zz2 z3; obtain ⟨k0, k1, k2, k3⟩ := cl4 (rj_r HJ8.out); obtain ⟨z0, z1, zz2, z3⟩ := fz4 (rj_r HJ8.out))
              go_wp2_with fail
              refine ⟨⟨j + 1, .slice A8 cur2.length c8, by omega, by go_num, ?_, ?_⟩, by simp [intOf]; omega⟩
              rotate_left
              · exact Lib.hid (rj_set HJ8.out 3 _)
              · refine Lib.hid ?_
                have h9 := r_low HO8.out ((OnlyS.refl (· = b) w8).set ⟨b, 3, none⟩ (.slice A8 cur2.length c8) (.inl rfl)) (fun k hk => by omega)
                rw [List.replicate_succ', ← List.append_assoc, HCUR.out, HCUR2.out]
                exact h9
            · have hlj' : ¬ (j : Int) < 16 := by omega
              obtain rfl : j = 16 := by omega
              go_wp2_with fail
              refine ⟨⟨k + 1, z2, cur, _, by omega, ?_, by go_num, hy2, ?_, E2, hr7, hj7⟩, by simp [intOf]; omega⟩
              · exact Lib.hid (by have := hacc.out; have := HLEN.out; omega)
              · exact Lib.hid (by rw [← HCUR.out, List.append_assoc]; exact E1.out)
        · have hlt' : ¬ (k : Int) < 1 + (un : Int) := by omega
          obtain rfl : k = 1 + un := by omega
          have e1 := he1.out
          have e2 := he2.out
          rw [Nat.sub_self] at e1 e2
          replace e1 : acc ++ [] = (dataN (1 + un) z).1 := e1
          rw [List.append_nil] at e1
          have E1 := Lib.hid e1
          have E2 := Lib.hid e2
          clear e1 e2
          obtain ⟨A7, c7, rfl⟩ := Kd.R_slice hrow.out
          obtain ⟨k0, k1, k2, k3⟩ := cl4 (rj_r hj.out)
          obtain ⟨y0, y1, yy2, y3⟩ := fz4 hj.out.2.1
          obtain ⟨u0, u1, u2, u3⟩ := cl4 hj.out.2.1
          go_wp2_with fail
          refine bodyPost_ret (results_cell_row rfl _ _ (w.heap.size + 1) 103 #[.int .i64 1, .int .i64 O, .int .i64 (1 + (un : Int)), .slice A7 acc.length c7] (0, 0) _ rfl (set4 hj.out.2.1) Try.underlying103 rfl (by kernel_rfl)) rfl ?_
          show ReqQ 149 w g (reqN c0 x) _ _
          rw [EE.out]
          have o4 := only4 wr (w.heap.size + 1) (.int .i64 1) (.int .i64 O) (.int .i64 (1 + (un : Int))) (.slice A7 acc.length c7)
          refine ⟨_, rfl, ?_, ?_, (rj_o hj.out).trans o4 (fun k hk => .inr (by omega))⟩
          · show Kd.R KB 5 _ _ _ _ (dataN (1 + un) z).1
            rw [← E1.out]
            exact Kd.R_lower (r_low hrow.out o4 (fun k hk => by omega)) (by omega)
          · show DAt 149 _ g (dataN (1 + un) z).2
            rw [← E2.out]
            exact d_only (rj_d hj.out) o4 (fun he => by omega)
end Go.Proofs.Ytoobbolaoldacaa.DiceW
