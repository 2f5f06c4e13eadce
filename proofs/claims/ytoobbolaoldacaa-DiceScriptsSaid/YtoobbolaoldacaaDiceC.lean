/-
  Dice: a span, and bytes of sectors (printed by tools/mkdicec.py).
-/
import Derived.Test.YtoobbolaoldacaaDiceB
import Derived.Test.YtoobbolaoldacaaDiceG
import Derived.Test.YtoobbolaoldacaaCloneB
namespace Go.Proofs.Ytoobbolaoldacaa.DiceW
open Go.RowKit Go.Proofs.Ytoobbolaoldacaa Go.Proofs.Ytoobbolaoldacaa.Dice Go.Proofs.Ytoobbolaoldacaa.DiceP Go.Proofs.Ytoobbolaoldacaa.RowOwn Go.Proofs.Ytoobbolaoldacaa.CloneB Go.Proofs.YtoobbolaoldacaaW.PrintWords Go.Proofs.YtoobbolaoldacaaW.PrintLast Go.Proofs.YtoobbolaoldacaaW.PrintMore
attribute [local go_sem] max2_int min2_int max_two min_two
set_option linter.unusedVariables false
theorem only2 (W : World) (b : Nat) (v0 v1 : Value) : OnlyS (· = b) W ((W.setCell ⟨b, 0, none⟩ v0).setCell ⟨b, 1, none⟩ v1) := by
  refine OnlyS.set (OnlyS.set (OnlyS.refl _ W) _ _ (.inl ?_)) _ _ (.inl ?_) <;> rfl
theorem set2 {W : World} {b t : Nat} {u0 u1 v0 v1 : Value} (h : W.heap[b]? = some (.cells #[u0, u1] t (0, 0))) : ((W.setCell ⟨b, 0, none⟩ v0).setCell ⟨b, 1, none⟩ v1).heap[b]? = some (.cells #[v0, v1] t (0, 0)) := by
  have h1 : (W.setCell ⟨b, 0, none⟩ v0).heap[b]? = some (.cells #[v0, u1] t (0, 0)) := set_at h 0 v0
  exact set_at h1 1 v1
set_option maxRecDepth 20000 in
set_option maxHeartbeats 2000000 in
theorem span_c (g x : Nat) (s : Int) (w : World) (hl : Live x) (hs : 1 ≤ s) (hs2 : s ≤ 256) (h : DAt 113 w g x) :
    Calls Try.prog 84 #[.pointer (some ⟨g, 0, none⟩), .int .i64 s] w fun e w' => e = .returned (.agg #[.int .i64 (spanO s x), .int .i64 (spanL s x)]) ∧ DAt 113 w' g (spanS s x) ∧ OnlyS (· = g) w w' := by
  by_cases hc : s < 8
  · have e0 : spanL s x = 1 + lessN s x := by unfold spanL; rw [if_pos hc]
    have e1 : spanX s x = lessS s x := by unfold spanX; rw [if_pos hc]
    have BL := Lib.hid (below_yes g x s (w.alloc (.cells #[.int .i64 0, .int .i64 0] 27)) hl (by omega) (old_at h _))
    have hy : Live (lessS s x) := lessS_live hl
    have h0 := lessN_le (n := s) (x := x)
    have h1 := lessN_lt (n := s) (x := x) (by omega)
    unfold spanO spanS
    rw [e0, e1]
    clear e0 e1
    generalize lessN s x = t at BL h0 h1 ⊢
    generalize lessS s x = y at BL hy ⊢
    have BL2 := Lib.hid (fun W (hW : DAt 113 W g y) => below_yes g y (s - (1 + t) + 1) W hy (by omega) hW)
    have HZ := Lib.hid (new_at w (.cells #[.int .i64 0, .int .i64 0] 27))
    have hgl := d_lt h
    generalize lessN (s - (1 + t) + 1) y = u at BL2 ⊢
    generalize lessS (s - (1 + t) + 1) y = z at BL2 ⊢
    clear h
    go_enter Try.func84, Try.ntmps84
    go_wp2_with (first
      | (go_at_call 43; with_reducible refine BL.out.mono ?_; rintro e w1 ⟨rfl, hd1, ho1⟩)
      | (go_at_call 43; with_reducible refine (BL2.out _ hd1).mono ?_; rintro e w2 ⟨rfl, hd2, ho2⟩; have hz2 := blk_only (S := fun k => k = g) (blk_only (S := fun k => k = g) HZ.out ho1 (fun he => by omega)) ho2 (fun he => by omega); have z0 := blk_cell hz2 0; have z1 := blk_cell hz2 1; have f0 := blk_frozen hz2 0; have f1 := blk_frozen hz2 1; have HZ2 := Lib.hid hz2; clear hz2))
    refine bodyPost_ret (results_cell_row rfl _ _ w.heap.size 27 #[.int .i64 u, .int .i64 (1 + t)] (0, 0) _ rfl (set2 HZ2.out) Try.underlying27 rfl (by kernel_rfl)) rfl ?_
    have o2 := only2 w2 w.heap.size (.int .i64 u) (.int .i64 (1 + t))
    refine ⟨rfl, d_only hd2 o2 (fun he => by omega), ?_⟩
    · have o1 : OnlyS (· = g) w w2 := (((OnlyS.refl (· = g) w).alloc _).trans ho1 (fun k hk => .inl hk)).trans ho2 (fun k hk => .inl hk)
      exact o1.trans o2 (fun k hk => .inr (by omega))
  · have e0 : spanL s x = 1 + lessN 8 x := by unfold spanL; rw [if_neg hc]
    have e1 : spanX s x = lessS 8 x := by unfold spanX; rw [if_neg hc]
    have BL := Lib.hid (below_yes g x 8 (w.alloc (.cells #[.int .i64 0, .int .i64 0] 27)) hl (by omega) (old_at h _))
    have hy : Live (lessS 8 x) := lessS_live hl
    have h0 := lessN_le (n := 8) (x := x)
    have h1 := lessN_lt (n := 8) (x := x) (by omega)
    unfold spanO spanS
    rw [e0, e1]
    clear e0 e1
    generalize lessN 8 x = t at BL h0 h1 ⊢
    generalize lessS 8 x = y at BL hy ⊢
    have BL2 := Lib.hid (fun W (hW : DAt 113 W g y) => below_yes g y (s - (1 + t) + 1) W hy (by omega) hW)
    have HZ := Lib.hid (new_at w (.cells #[.int .i64 0, .int .i64 0] 27))
    have hgl := d_lt h
    generalize lessN (s - (1 + t) + 1) y = u at BL2 ⊢
    generalize lessS (s - (1 + t) + 1) y = z at BL2 ⊢
    clear h
    go_enter Try.func84, Try.ntmps84
    go_wp2_with (first
      | (go_at_call 43; with_reducible refine BL.out.mono ?_; rintro e w1 ⟨rfl, hd1, ho1⟩)
      | (go_at_call 43; with_reducible refine (BL2.out _ hd1).mono ?_; rintro e w2 ⟨rfl, hd2, ho2⟩; have hz2 := blk_only (S := fun k => k = g) (blk_only (S := fun k => k = g) HZ.out ho1 (fun he => by omega)) ho2 (fun he => by omega); have z0 := blk_cell hz2 0; have z1 := blk_cell hz2 1; have f0 := blk_frozen hz2 0; have f1 := blk_frozen hz2 1; have HZ2 := Lib.hid hz2; clear hz2))
    refine bodyPost_ret (results_cell_row rfl _ _ w.heap.size 27 #[.int .i64 u, .int .i64 (1 + t)] (0, 0) _ rfl (set2 HZ2.out) Try.underlying27 rfl (by kernel_rfl)) rfl ?_
    have o2 := only2 w2 w.heap.size (.int .i64 u) (.int .i64 (1 + t))
    refine ⟨rfl, d_only hd2 o2 (fun he => by omega), ?_⟩
    · have o1 : OnlyS (· = g) w w2 := (((OnlyS.refl (· = g) w).alloc _).trans ho1 (fun k hk => .inl hk)).trans ho2 (fun k hk => .inl hk)
      exact o1.trans o2 (fun k hk => .inr (by omega))

theorem r_dice {w1 w2 : World} {g base : Nat} {v : Value} {xs : List Int} (h : Kd.R KB 5 w1 base (fun _ => True) v xs) (ho : OnlyS (· = g) w1 w2) (hg : g < base) : Kd.R KB 5 w2 base (fun q => q ≠ g) v xs :=
  Kd.R_mono (Kd.R_step (Kd.R_bound h) (fun k hk hlt => ho.block k hlt (fun he => by have := hk.2.1; omega))) (fun k hk he => by have := hk.2.1; omega)
theorem own_ne {w : World} {g base : Nat} {v : Value} {xs : List Int} (h : Kd.R KB 5 w base (fun q => q ≠ g) v xs) : v.ownBlock ≠ some g := by
  intro he
  exact row_own_g (.inl h : Row KB 5 w base _ v xs) g he rfl
theorem own_ge {w : World} {base : Nat} {v : Value} {xs : List Int} (h : Kd.R KB 5 w base (fun _ => True) v xs) (q : Nat) (hq : v.ownBlock = some q) : base ≤ q :=
  (row_own_g (row_bound (.inl h : Row KB 5 w base _ v xs)) q hq).2.1
theorem dataN_succ (n x : Nat) : dataN (n + 1) x = (List.replicate 16 (lessN 256 x) ++ (dataN n (lessS 256 x)).1, (dataN n (lessS 256 x)).2) := rfl
set_option maxRecDepth 20000 in
set_option maxHeartbeats 4000000 in
theorem sectors_c (g x n : Nat) (w : World) (hl : Live x) (hn : n ≤ 8) (h : DAt 113 w g x) :
    Calls Try.prog 85 #[.pointer (some ⟨g, 0, none⟩), .int .i64 (n : Int)] w fun e w' => ∃ v, e = .returned v ∧ Kd.R KB 5 w' w.heap.size (fun _ => True) v (dataN n x).1 ∧ DAt 113 w' g (dataN n x).2 ∧ OnlyS (· = g) w w' := by
  have hgl := d_lt h
  have H := Lib.hid h
  have HL := Lib.hid hl
  clear h hl
  go_enter Try.func85, Try.ntmps85
  go_wp2_with fail
  go_loopw [5, 7] (fun lv iv wr => ∃ (k y : Nat) (acc : List Int), k ≤ n ∧ Hid (acc.length = 16 * k) ∧ iv = .int .i64 (k : Int) ∧ Hid (Live y) ∧ Hid (acc ++ (dataN (n - k) y).1 = (dataN n x).1) ∧ Hid ((dataN (n - k) y).2 = (dataN n x).2) ∧ Hid (Kd.R KB 5 wr w.heap.size (fun _ => True) lv acc) ∧ Hid (DAt 113 wr g y) ∧ Hid (OnlyS (· = g) w wr))
    (fun _ i _ => n - (intOf i).toNat)
  case atStart => exact ⟨0, x, [], Nat.zero_le _, Lib.hid rfl, rfl, HL, Lib.hid rfl, Lib.hid rfl, Lib.hid (Kd.R_nil _ _ _ _ _), H, Lib.hid (OnlyS.refl _ _)⟩
  case round =>
    obtain ⟨k, y, acc, hk, hacc, rfl, hly, he1, he2, hrow, hd, ho⟩ := hrel
    clear H HL
    by_cases hlt : k < n
    · have hlt' : (k : Int) < (n : Int) := by omega
      have BL := Lib.hid (below_yes g y 256 wr hly.out (by decide) hd.out)
      obtain ⟨j, hj⟩ : ∃ j, n - k = j + 1 := ⟨n - k - 1, by omega⟩
      have hj2 : n - (k + 1) = j := by omega
      have e1 := he1.out
      have e2 := he2.out
      rw [hj, dataN_succ] at e1 e2
      have h0 := lessN_le (n := 256) (x := y)
      have h1 := lessN_lt (n := 256) (x := y) (by decide)
      have hy2 := Lib.hid (lessS_live (n := 256) hly.out)
      rw [← hj2] at e1 e2
      generalize lessN 256 y = t at BL h0 h1 e1 e2
      generalize lessS 256 y = z at BL hy2 e1 e2
      have E1 := Lib.hid e1
      have E2 := Lib.hid e2
      have hwrap : IntKind.u8.wrap t = t := by simp [IntKind.wrap, IntKind.bits, IntKind.signed]; omega
      have hso := Lib.hid ho.out.size
      clear e1 e2 hj hj2
      obtain ⟨A0, c0, rfl⟩ := Kd.R_slice hrow.out
      go_wp2_with (first
        | (go_at_call 43; refine BL.out.mono ?_; rintro e w4 ⟨rfl, hd4, ho4⟩; have HD4 := Lib.hid hd4; have HO4 := Lib.hid ho4; clear hd4 ho4)
        | (go_at_call 110; refine (repeat_c _ _ t _ (by rw [World.size_alloc]; exact Nat.lt_succ_self _) (blk_cell (new_at w4 (.cells #[.int .u8 t] 5)) 0)).mono ?_; rintro e w5 ⟨rfl, hC5, hb5⟩; rw [World.size_alloc] at hC5; have HC5 := Lib.hid hC5; have HO5 := Lib.hid ((HO4.out.alloc (.cells #[.int .u8 t] 5)).below hb5); have HD5 := Lib.hid (d_below (old_at HD4.out _) hb5); clear hC5 hb5)
        | ((with_reducible refine gate_builtin (b := .append) (xs := #[.tmp 9, .tmp 14]) rfl ?_); at_builtin; go_loud (refine Kd.R_append_rows (Kd.int .u8) (w0 := w5) w.heap.size rfl (.tmp 9) (.tmp 14) 28 5 (.int .u8 0) 1 rfl Try.underlying28 info_u8 rfl (by decide) (by omega) (.slice A0 acc.length c0) acc (List.replicate 16 t) _ _ _ (fun q => q ≠ g) (fun _ => False) rfl rfl (r_dice hrow.out HO5.out hgl) HC5.out (fun _ _ h => h) (fun _ h => h.elim) (fun q hq => by have := d_lt HD5.out; omega) (Below.refl _ _) (by have := HO5.out.size; have := hso.out; omega) (by have := hacc.out; omega) ?_); intro v7 w7 ho7 hb7 hg7 hat7; have HO7 := Lib.hid ho7; have HG7 := Lib.hid hg7; clear ho7 hb7 hg7 hat7))
      go_wp2_with fail
      refine ⟨⟨k + 1, z, acc ++ List.replicate 16 t, by omega, ?_, by go_num, hy2, ?_, E2, ?_, ?_, ?_⟩, by simp [intOf]; omega⟩
      · exact Lib.hid (by have := hacc.out; simp; omega)
      · exact Lib.hid (by rw [List.append_assoc]; exact E1.out)
      · exact Lib.hid (Kd.R_mono HO7.out (fun _ _ => trivial))
      · exact Lib.hid (keep_at_grown HD5.out HG7.out (fun he => own_ne (r_dice hrow.out HO5.out hgl) he.symm))
      · exact Lib.hid ((ho.out.trans HO5.out (fun k hk => .inl hk)).grown HG7.out (fun q hq => .inr (own_ge hrow.out q hq)))
    · have hlt' : ¬ (k : Int) < (n : Int) := by omega
      obtain rfl : k = n := by omega
      have e1 := he1.out
      have e2 := he2.out
      rw [Nat.sub_self] at e1 e2
      go_wp2_with fail
      go_ret
      refine ⟨_, rfl, ?_, ?_, ho.out⟩
      · rw [← e1]
        show Kd.R KB 5 _ _ _ _ (acc ++ [])
        rw [List.append_nil]
        exact hrow.out
      · rw [← e2]
        exact hd.out
end Go.Proofs.Ytoobbolaoldacaa.DiceW
