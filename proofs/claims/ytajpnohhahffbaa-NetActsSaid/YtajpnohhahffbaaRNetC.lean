/-
  The contracts of the reference's net.
-/
import Derived.Test.YtajpnohhahffbaaRNetS
namespace Go.Proofs.Ytajpnohhahffbaa.NetW
open Go.RowKit Go.Proofs.Ytajpnohhahffbaa Go.Proofs.Ytajpnohhahffbaa.RowOwn Go.Proofs.Ytajpnohhahffbaa.CloneB Go.Proofs.YtajpnohhahffbaaW.PrintWords Go.Proofs.YtajpnohhahffbaaW.PrintMore
set_option linter.unusedVariables false
theorem cell_keep {w w1 : World} {a : Addr} {v : Value} (hc : w.cell? a = some v) (hb : Below w.heap.size w w1) : w1.cell? a = some v := cell_kept hc (Kept.of_below hb (fun _ => False)) (fun h => h)
theorem RLen_0 (g base : Nat) (L0 L1 : List (List Int)) (S : Nat → Prop) (w : World) (h : RNetAt w g base L0 L1 S) :
    Calls Try.prog 47 #[.pointer (some ⟨g, 0, none⟩), .int .i64 0] w fun e w' => e = .returned (.int .i64 (L0.length : Int)) ∧ w = w' := by
  obtain ⟨v0, v1, ok0, ok1, hh, h0, h1, hS, hb, d0, d1, hl, s0, s1⟩ := h
  obtain ⟨A, c, rfl, hc, hC⟩ := row_reads h0
  have k1 : w.cell? ⟨g, 0, none⟩ = some (.slice A L0.length c) := blk_cell hh 0
  clear hh h0 h1 hC s0 s1
  go_enter Try.func47, Try.ntmps47
  go_wp2
  go_ret
  exact ⟨rfl, rfl⟩
theorem RLen_1 (g base : Nat) (L0 L1 : List (List Int)) (S : Nat → Prop) (w : World) (h : RNetAt w g base L0 L1 S) :
    Calls Try.prog 47 #[.pointer (some ⟨g, 0, none⟩), .int .i64 1] w fun e w' => e = .returned (.int .i64 (L1.length : Int)) ∧ w = w' := by
  obtain ⟨v0, v1, ok0, ok1, hh, h0, h1, hS, hb, d0, d1, hl, s0, s1⟩ := h
  obtain ⟨A, c, rfl, hc, hC⟩ := row_reads h1
  have k1 : w.cell? ⟨g, 1, none⟩ = some (.slice A L1.length c) := blk_cell hh 1
  clear hh h0 h1 hC s0 s1
  go_enter Try.func47, Try.ntmps47
  go_wp2
  go_ret
  exact ⟨rfl, rfl⟩
theorem RLen_c (g base : Nat) (d : Int) (L0 L1 : List (List Int)) (S : Nat → Prop) (w : World) (h : RNetAt w g base L0 L1 S) :
    Calls Try.prog 47 #[.pointer (some ⟨g, 0, none⟩), .int .i64 d] w fun e w' => e = .returned (.int .i64 (lenN d L0 L1)) ∧ w = w' := by
  rcases dir_cases d with hd | rfl | rfl
  · rw [show lenN d L0 L1 = 0 by unfold lenN; rw [if_pos hd]]
    clear h
    by_cases hn : d < 0
    · clear hd
      go_enter Try.func47, Try.ntmps47
      go_wp2
      go_ret
      exact ⟨rfl, rfl⟩
    · have h2 : 1 < d := by omega
      clear hd
      go_enter Try.func47, Try.ntmps47
      go_wp2
      go_ret
      exact ⟨rfl, rfl⟩
  · exact RLen_0 g base L0 L1 S w h
  · exact RLen_1 g base L0 L1 S w h
set_option maxRecDepth 100000 in
theorem RAt_0 (g base : Nat) (i : Int) (L0 L1 : List (List Int)) (S : Nat → Prop) (w : World) (h : RNetAt w g base L0 L1 S) :
    Calls Try.prog 45 #[.pointer (some ⟨g, 0, none⟩), .int .i64 0, .int .i64 i] w fun e w' => ∃ v, e = .returned (.tuple #[v, .int .i64 (atN 0 i L0 L1).1]) ∧ Kd.R KB 5 w' w.heap.size (fun _ => True) v (atN 0 i L0 L1).2 ∧ Below w.heap.size w w' := by
  obtain ⟨v0, v1, ok0, ok1, hh, h0, h1, hS, hb, d0, d1, hl, s0, s1⟩ := h
  obtain ⟨A, c, rfl, hc, hC⟩ := row_reads h0
  have k1 : w.cell? ⟨g, 0, none⟩ = some (.slice A L0.length c) := blk_cell hh 0
  have hsm := s0.1
  have hsb := s0.2
  clear hh h0 h1 s0 s1 d0 d1 hl
  by_cases hi : i < 0 ∨ (L0.length : Int) ≤ i
  · rw [show atN 0 i L0 L1 = (7, []) by unfold atN dirL; rw [if_neg (by omega)]; rw [if_pos rfl, if_pos hi]]
    clear hC hsb
    by_cases hn : i < 0
    · clear hi
      go_enter Try.func45, Try.ntmps45
      go_wp2
      go_ret2
      exact ⟨_, rfl, Kd.R_nil _ _ _ _ _, Below.refl _ _⟩
    · have hi2 : (L0.length : Int) ≤ i := by omega
      clear hi
      go_enter Try.func45, Try.ntmps45
      go_wp2
      go_ret2
      exact ⟨_, rfl, Kd.R_nil _ _ _ _ _, Below.refl _ _⟩
  · have hn : ¬ i < 0 := by omega
    have hi2 : ¬ (L0.length : Int) ≤ i := by omega
    rw [show atN 0 i L0 L1 = (0, L0.getD i.toNat []) by unfold atN dirL; rw [if_neg (by omega)]; rw [if_pos rfl, if_neg hi]]
    clear hi
    obtain ⟨k, rfl⟩ := Int.eq_ofNat_of_zero_le (show 0 ≤ i by omega)
    rw [Int.toNat_natCast]
    obtain ⟨ad, A0, c0, rfl, hcell, hC0⟩ := at_K1 hC k (by omega)
    have hm : (L0.getD k []).length ≤ 300 := by
      rw [List.getD_eq_getElem?_getD, List.getElem?_eq_getElem (show k < L0.length by omega)]
      exact hsb _ (List.getElem_mem _)
    generalize L0.getD k [] = b at hcell hC0 hm
    have HR0 := Lib.hid hC0
    have HK := Lib.hid (And.intro k1 hcell)
    clear hC hC0 hsb
    have hk1 : (k : Int) < (L0.length : Int) := by omega
    go_enter Try.func45, Try.ntmps45
    go_wp2_with (first
      | ((with_reducible refine gate_dst (N := 27) rfl ?_); (try (refine gate_guard (by rfl) ?_; dsimp only)); refine Kd.R_lit (Kd.int .u8) _ 5 ?hg (N := 27) ?hd (xs := ([] : List Int)) (inner := []) (ok := fun _ => True) (okp := fun _ => True) ?hr ?hp (fun _ hk => hk) trivial (Below.refl _ _) (Nat.le_refl _) (by simp) ?_; (case hd => rfl); (case hg => rfl); (case hr => first | (go_simp; done) | (go_simp; rfl)); (case hp => exact (Reps.none _ _)); intro v5 w5 ho5 hb5 hg5 hnew5; have HO5 := Lib.hid ho5; have HB5 := Lib.hid hb5; have hq5 : w5.cell? ⟨g, 0, none⟩ = some (.slice (some ad) L0.length c) := cell_keep HK.out.1 hb5; have hp5 : w5.cell? (ad.add k) = some (.slice A0 b.length c0) := cell_keep HK.out.2 hb5; clear hg5 hnew5 ho5 hb5)
      | ((with_reducible refine gate_builtin (b := .append) (xs := #[.tmp 27, .tmp 36]) rfl ?_); at_builtin; refine Kd.R_append_rows (Kd.int .u8) (w0 := w) w.heap.size rfl (.tmp 27) (.tmp 36) 45 5 (.int .u8 0) 1 rfl Try.underlying45 info_u8 rfl (by decide) (by omega) v5 [] b _ _ _ (fun _ => True) (fun _ => False) rfl rfl ?aO ?aR (fun _ _ h => h) (fun _ h => h.elim) ?aF ?aB ?aS ?aL ?_; (case aR => exact Kd.C_below HR0.out HB5.out); (case aB => exact HB5.out); (case aF => exact (fun _ _ => trivial)); (case aO => exact HO5.out); (case aS => exact HB5.out.size); (case aL => simp; omega); intro v7 w7 ho7 hb7 hg7 hat7; have HO7 := Lib.hid ho7; have HB7 := Lib.hid hb7; clear ho7 hb7 hg7 hat7))
    go_ret2
    exact ⟨_, rfl, by have := HO7.out; rwa [List.nil_append] at this, HB7.out⟩
set_option maxRecDepth 100000 in
theorem RAt_1 (g base : Nat) (i : Int) (L0 L1 : List (List Int)) (S : Nat → Prop) (w : World) (h : RNetAt w g base L0 L1 S) :
    Calls Try.prog 45 #[.pointer (some ⟨g, 0, none⟩), .int .i64 1, .int .i64 i] w fun e w' => ∃ v, e = .returned (.tuple #[v, .int .i64 (atN 1 i L0 L1).1]) ∧ Kd.R KB 5 w' w.heap.size (fun _ => True) v (atN 1 i L0 L1).2 ∧ Below w.heap.size w w' := by
  obtain ⟨v0, v1, ok0, ok1, hh, h0, h1, hS, hb, d0, d1, hl, s0, s1⟩ := h
  obtain ⟨A, c, rfl, hc, hC⟩ := row_reads h1
  have k1 : w.cell? ⟨g, 1, none⟩ = some (.slice A L1.length c) := blk_cell hh 1
  have hsm := s1.1
  have hsb := s1.2
  clear hh h0 h1 s0 s1 d0 d1 hl
  by_cases hi : i < 0 ∨ (L1.length : Int) ≤ i
  · rw [show atN 1 i L0 L1 = (7, []) by unfold atN dirL; rw [if_neg (by omega)]; rw [if_neg (show ¬ (1 : Int) = 0 by omega), if_pos hi]]
    clear hC hsb
    by_cases hn : i < 0
    · clear hi
      go_enter Try.func45, Try.ntmps45
      go_wp2
      go_ret2
      exact ⟨_, rfl, Kd.R_nil _ _ _ _ _, Below.refl _ _⟩
    · have hi2 : (L1.length : Int) ≤ i := by omega
      clear hi
      go_enter Try.func45, Try.ntmps45
      go_wp2
      go_ret2
      exact ⟨_, rfl, Kd.R_nil _ _ _ _ _, Below.refl _ _⟩
  · have hn : ¬ i < 0 := by omega
    have hi2 : ¬ (L1.length : Int) ≤ i := by omega
    rw [show atN 1 i L0 L1 = (0, L1.getD i.toNat []) by unfold atN dirL; rw [if_neg (by omega)]; rw [if_neg (show ¬ (1 : Int) = 0 by omega), if_neg hi]]
    clear hi
    obtain ⟨k, rfl⟩ := Int.eq_ofNat_of_zero_le (show 0 ≤ i by omega)
    rw [Int.toNat_natCast]
    obtain ⟨ad, A0, c0, rfl, hcell, hC0⟩ := at_K1 hC k (by omega)
    have hm : (L1.getD k []).length ≤ 300 := by
      rw [List.getD_eq_getElem?_getD, List.getElem?_eq_getElem (show k < L1.length by omega)]
      exact hsb _ (List.getElem_mem _)
    generalize L1.getD k [] = b at hcell hC0 hm
    have HR0 := Lib.hid hC0
    have HK := Lib.hid (And.intro k1 hcell)
    clear hC hC0 hsb
    have hk1 : (k : Int) < (L1.length : Int) := by omega
    go_enter Try.func45, Try.ntmps45
    go_wp2_with (first
      | ((with_reducible refine gate_dst (N := 27) rfl ?_); (try (refine gate_guard (by rfl) ?_; dsimp only)); refine Kd.R_lit (Kd.int .u8) _ 5 ?hg (N := 27) ?hd (xs := ([] : List Int)) (inner := []) (ok := fun _ => True) (okp := fun _ => True) ?hr ?hp (fun _ hk => hk) trivial (Below.refl _ _) (Nat.le_refl _) (by simp) ?_; (case hd => rfl); (case hg => rfl); (case hr => first | (go_simp; done) | (go_simp; rfl)); (case hp => exact (Reps.none _ _)); intro v5 w5 ho5 hb5 hg5 hnew5; have HO5 := Lib.hid ho5; have HB5 := Lib.hid hb5; have hq5 : w5.cell? ⟨g, 1, none⟩ = some (.slice (some ad) L1.length c) := cell_keep HK.out.1 hb5; have hp5 : w5.cell? (ad.add k) = some (.slice A0 b.length c0) := cell_keep HK.out.2 hb5; clear hg5 hnew5 ho5 hb5)
      | ((with_reducible refine gate_builtin (b := .append) (xs := #[.tmp 27, .tmp 36]) rfl ?_); at_builtin; refine Kd.R_append_rows (Kd.int .u8) (w0 := w) w.heap.size rfl (.tmp 27) (.tmp 36) 45 5 (.int .u8 0) 1 rfl Try.underlying45 info_u8 rfl (by decide) (by omega) v5 [] b _ _ _ (fun _ => True) (fun _ => False) rfl rfl ?aO ?aR (fun _ _ h => h) (fun _ h => h.elim) ?aF ?aB ?aS ?aL ?_; (case aR => exact Kd.C_below HR0.out HB5.out); (case aB => exact HB5.out); (case aF => exact (fun _ _ => trivial)); (case aO => exact HO5.out); (case aS => exact HB5.out.size); (case aL => simp; omega); intro v7 w7 ho7 hb7 hg7 hat7; have HO7 := Lib.hid ho7; have HB7 := Lib.hid hb7; clear ho7 hb7 hg7 hat7))
    go_ret2
    exact ⟨_, rfl, by have := HO7.out; rwa [List.nil_append] at this, HB7.out⟩
theorem RAt_c (g base : Nat) (d i : Int) (L0 L1 : List (List Int)) (S : Nat → Prop) (w : World) (h : RNetAt w g base L0 L1 S) :
    Calls Try.prog 45 #[.pointer (some ⟨g, 0, none⟩), .int .i64 d, .int .i64 i] w fun e w' => ∃ v, e = .returned (.tuple #[v, .int .i64 (atN d i L0 L1).1]) ∧ Kd.R KB 5 w' w.heap.size (fun _ => True) v (atN d i L0 L1).2 ∧ Below w.heap.size w w' := by
  rcases dir_cases d with hd | rfl | rfl
  · rw [show atN d i L0 L1 = (2, []) by unfold atN; rw [if_pos hd]]
    clear h
    by_cases hn : d < 0
    · clear hd
      go_enter Try.func45, Try.ntmps45
      go_wp2
      go_ret2
      exact ⟨_, rfl, Kd.R_nil _ _ _ _ _, Below.refl _ _⟩
    · have h2 : 1 < d := by omega
      clear hd
      go_enter Try.func45, Try.ntmps45
      go_wp2
      go_ret2
      exact ⟨_, rfl, Kd.R_nil _ _ _ _ _, Below.refl _ _⟩
  · exact RAt_0 g base i L0 L1 S w h
  · exact RAt_1 g base i L0 L1 S w h
end Go.Proofs.Ytajpnohhahffbaa.NetW
