/-
  The contracts of package net's methods, over what its state says.
-/
import Derived.Test.YtajpnohhahffbaaNetS
namespace Go.Proofs.Ytajpnohhahffbaa.NetW
open Go.RowKit Go.Proofs.Ytajpnohhahffbaa Go.Proofs.Ytajpnohhahffbaa.RowOwn Go.Proofs.Ytajpnohhahffbaa.CloneB Go.Proofs.YtajpnohhahffbaaW.PrintWords Go.Proofs.YtajpnohhahffbaaW.PrintMore
set_option linter.unusedVariables false
theorem at_K1 {w : World} {A : Option Addr} {n : Nat} {xs : List (List Int)} (h : Kd.C K1 w A n xs) (i : Nat) (hi : i < n) :
    ∃ ad A0 c0, A = some ad ∧ w.cell? (ad.add i) = some (.slice A0 (xs.getD i []).length c0) ∧ Kd.C KB w A0 (xs.getD i []).length (xs.getD i []) := by
  obtain ⟨ad, c, hA, hcl, hK, hcell⟩ := Kd.C_get h ([] : List Int) (i : Int) (by omega) (by omega)
  rw [Int.toNat_natCast] at hK hcell
  obtain ⟨A0, c0, rfl, _, hC⟩ := hK
  have := hcell 0 _ rfl
  exact ⟨ad, A0, c0, hA, by simpa [Kd.slice] using this, hC⟩
def dirL (d : Int) (L0 L1 : List (List Int)) : List (List Int) := if d = 0 then L0 else L1
def lenN (d : Int) (L0 L1 : List (List Int)) : Int := if d < 0 ∨ 2 ≤ d then 0 else ((dirL d L0 L1).length : Int)
def atN (d i : Int) (L0 L1 : List (List Int)) : Int × List Int := if d < 0 ∨ 2 ≤ d then (2, []) else if i < 0 ∨ ((dirL d L0 L1).length : Int) ≤ i then (7, []) else (0, (dirL d L0 L1).getD i.toNat [])
def putN (d : Int) (b : List Int) (L0 L1 : List (List Int)) : Int × List (List Int) × List (List Int) :=
  if d < 0 ∨ 2 ≤ d then (2, L0, L1) else if 4096 ≤ (dirL d L0 L1).length then (12, L0, L1) else (0, if d = 0 then L0 ++ [b] else L0, if d = 0 then L1 else L1 ++ [b])
def takeN (d i : Int) (L0 L1 : List (List Int)) : (Int × List Int) × List (List Int) × List (List Int) :=
  (atN d i L0 L1, if (atN d i L0 L1).1 = 0 ∧ d = 0 then L0.eraseIdx i.toNat else L0, if (atN d i L0 L1).1 = 0 ∧ d = 1 then L1.eraseIdx i.toNat else L1)
def doubleN (d i : Int) (L0 L1 : List (List Int)) : Int × List (List Int) × List (List Int) :=
  if (atN d i L0 L1).1 = 0 then putN d (atN d i L0 L1).2 L0 L1 else ((atN d i L0 L1).1, L0, L1)
theorem dir_cases (d : Int) : (d < 0 ∨ 2 ≤ d) ∨ d = 0 ∨ d = 1 := by omega
theorem Len_0 (g base : Nat) (L0 L1 : List (List Int)) (S : Nat → Prop) (w : World) (h : NetAt w g base L0 L1 S) :
    Calls Try.prog 46 #[.pointer (some ⟨g, 0, none⟩), .int .i64 0] w fun e w' => e = .returned (.int .i64 (L0.length : Int)) ∧ w = w' := by
  obtain ⟨v0, v1, ok0, ok1, hh, h0, h1, hS, hb, d0, d1, hl, s0, s1⟩ := h
  obtain ⟨A, c, rfl, hc, hC⟩ := row_reads h0
  have k0 : w.cell? ⟨g, 0, none⟩ = some (.bool true) := blk_cell hh 0
  have k1 : w.cell? ⟨g, 1, none⟩ = some (.slice A L0.length c) := blk_cell hh 1
  have D := Lib.hid (check_ok g 0 w k0 (by omega) (by omega))
  clear hh h0 h1 hC s0 s1
  go_enter Try.func46, Try.ntmps46
  go_wp2_with fail
  refine D.out.mono ?_
  rintro e w' ⟨rfl, rfl⟩
  go_wp2_with fail
  go_ret
  exact ⟨rfl, rfl⟩
theorem Len_1 (g base : Nat) (L0 L1 : List (List Int)) (S : Nat → Prop) (w : World) (h : NetAt w g base L0 L1 S) :
    Calls Try.prog 46 #[.pointer (some ⟨g, 0, none⟩), .int .i64 1] w fun e w' => e = .returned (.int .i64 (L1.length : Int)) ∧ w = w' := by
  obtain ⟨v0, v1, ok0, ok1, hh, h0, h1, hS, hb, d0, d1, hl, s0, s1⟩ := h
  obtain ⟨A, c, rfl, hc, hC⟩ := row_reads h1
  have k0 : w.cell? ⟨g, 0, none⟩ = some (.bool true) := blk_cell hh 0
  have k1 : w.cell? ⟨g, 2, none⟩ = some (.slice A L1.length c) := blk_cell hh 2
  have D := Lib.hid (check_ok g 1 w k0 (by omega) (by omega))
  clear hh h0 h1 hC s0 s1
  go_enter Try.func46, Try.ntmps46
  go_wp2_with fail
  refine D.out.mono ?_
  rintro e w' ⟨rfl, rfl⟩
  go_wp2_with fail
  go_ret
  exact ⟨rfl, rfl⟩
theorem made_of (w : World) (g base : Nat) (L0 L1 : List (List Int)) (S : Nat → Prop) (h : NetAt w g base L0 L1 S) : w.cell? ⟨g, 0, none⟩ = some (.bool true) := by
  obtain ⟨v0, v1, ok0, ok1, hh, _⟩ := h
  exact blk_cell hh 0
theorem Len_c (g base : Nat) (d : Int) (L0 L1 : List (List Int)) (S : Nat → Prop) (w : World) (h : NetAt w g base L0 L1 S) :
    Calls Try.prog 46 #[.pointer (some ⟨g, 0, none⟩), .int .i64 d] w fun e w' => e = .returned (.int .i64 (lenN d L0 L1)) ∧ w = w' := by
  rcases dir_cases d with hd | rfl | rfl
  · rw [show lenN d L0 L1 = 0 by unfold lenN; rw [if_pos hd]]
    have D := Lib.hid (check_dir g d w (made_of w g base L0 L1 S h) hd)
    clear h hd
    go_enter Try.func46, Try.ntmps46
    go_wp2_with fail
    refine D.out.mono ?_
    rintro e w' ⟨rfl, rfl⟩
    go_wp2_with fail
    go_ret
    exact ⟨rfl, rfl⟩
  · exact Len_0 g base L0 L1 S w h
  · exact Len_1 g base L0 L1 S w h
theorem At_0 (g base : Nat) (i : Int) (L0 L1 : List (List Int)) (S : Nat → Prop) (w : World) (h : NetAt w g base L0 L1 S) :
    Calls Try.prog 44 #[.pointer (some ⟨g, 0, none⟩), .int .i64 0, .int .i64 i] w fun e w' => ∃ v, e = .returned (.tuple #[v, .int .i64 (atN 0 i L0 L1).1]) ∧ Kd.R KB 5 w' w.heap.size (fun _ => True) v (atN 0 i L0 L1).2 ∧ Below w.heap.size w w' := by
  obtain ⟨v0, v1, ok0, ok1, hh, h0, h1, hS, hb, d0, d1, hl, s0, s1⟩ := h
  obtain ⟨A, c, rfl, hc, hC⟩ := row_reads h0
  have k0 : w.cell? ⟨g, 0, none⟩ = some (.bool true) := blk_cell hh 0
  have k1 : w.cell? ⟨g, 1, none⟩ = some (.slice A L0.length c) := blk_cell hh 1
  have D := Lib.hid (check_ok g 0 w k0 (by omega) (by omega))
  have hsm := s0.1
  have hsb := s0.2
  clear hh h0 h1 s0 s1 d0 d1 hl
  by_cases hi : i < 0 ∨ (L0.length : Int) ≤ i
  · rw [show atN 0 i L0 L1 = (7, []) by unfold atN dirL; rw [if_neg (by omega)]; rw [if_pos rfl, if_pos hi]]
    clear hC hsb
    by_cases hn : i < 0
    · clear hi
      go_enter Try.func44, Try.ntmps44
      go_wp2_with fail
      refine D.out.mono ?_
      rintro e w' ⟨rfl, rfl⟩
      go_wp2_with fail
      go_ret2
      exact ⟨_, rfl, Kd.R_nil _ _ _ _ _, Below.refl _ _⟩
    · have hi2 : (L0.length : Int) ≤ i := by omega
      clear hi
      go_enter Try.func44, Try.ntmps44
      go_wp2_with fail
      refine D.out.mono ?_
      rintro e w' ⟨rfl, rfl⟩
      go_wp2_with fail
      go_ret2
      exact ⟨_, rfl, Kd.R_nil _ _ _ _ _, Below.refl _ _⟩
  · have hn : ¬ i < 0 := by omega
    have hi2 : ¬ (L0.length : Int) ≤ i := by omega
    rw [show atN 0 i L0 L1 = (0, L0.getD i.toNat []) by unfold atN dirL; rw [if_neg (by omega)]; rw [if_pos rfl, if_neg hi]]
    clear hi
    obtain ⟨k, rfl⟩ := Int.eq_ofNat_of_zero_le (show 0 ≤ i by omega)
    rw [Int.toNat_natCast]
    obtain ⟨ad, A0, c0, rfl, hcell, hC0⟩ := at_K1 hC k (by omega)
    have hm : (L0.getD k []).length ≤ 300 := by
      rw [List.getD_eq_getElem?_getD, List.getElem?_eq_getElem (show k < L0.length by omega)]
      exact hsb _ (List.getElem_mem _)
    have CL := Lib.hid (clone_c A0 c0 (L0.getD k []) w hC0 (by omega))
    generalize L0.getD k [] = b at hcell CL hm
    clear hC hC0 hsb
    go_enter Try.func44, Try.ntmps44
    go_wp2_with fail
    refine D.out.mono ?_
    rintro e w' ⟨rfl, rfl⟩
    go_wp2_with fail
    refine CL.out.mono ?_
    rintro e w1 ⟨v, rfl, hr, hbl⟩
    go_wp2_with fail
    go_ret2
    exact ⟨_, rfl, hr, hbl⟩
theorem At_1 (g base : Nat) (i : Int) (L0 L1 : List (List Int)) (S : Nat → Prop) (w : World) (h : NetAt w g base L0 L1 S) :
    Calls Try.prog 44 #[.pointer (some ⟨g, 0, none⟩), .int .i64 1, .int .i64 i] w fun e w' => ∃ v, e = .returned (.tuple #[v, .int .i64 (atN 1 i L0 L1).1]) ∧ Kd.R KB 5 w' w.heap.size (fun _ => True) v (atN 1 i L0 L1).2 ∧ Below w.heap.size w w' := by
  obtain ⟨v0, v1, ok0, ok1, hh, h0, h1, hS, hb, d0, d1, hl, s0, s1⟩ := h
  obtain ⟨A, c, rfl, hc, hC⟩ := row_reads h1
  have k0 : w.cell? ⟨g, 0, none⟩ = some (.bool true) := blk_cell hh 0
  have k1 : w.cell? ⟨g, 2, none⟩ = some (.slice A L1.length c) := blk_cell hh 2
  have D := Lib.hid (check_ok g 1 w k0 (by omega) (by omega))
  have hsm := s1.1
  have hsb := s1.2
  clear hh h0 h1 s0 s1 d0 d1 hl
  by_cases hi : i < 0 ∨ (L1.length : Int) ≤ i
  · rw [show atN 1 i L0 L1 = (7, []) by unfold atN dirL; rw [if_neg (by omega)]; rw [if_neg (show ¬ (1 : Int) = 0 by omega), if_pos hi]]
    clear hC hsb
    by_cases hn : i < 0
    · clear hi
      go_enter Try.func44, Try.ntmps44
      go_wp2_with fail
      refine D.out.mono ?_
      rintro e w' ⟨rfl, rfl⟩
      go_wp2_with fail
      go_ret2
      exact ⟨_, rfl, Kd.R_nil _ _ _ _ _, Below.refl _ _⟩
    · have hi2 : (L1.length : Int) ≤ i := by omega
      clear hi
      go_enter Try.func44, Try.ntmps44
      go_wp2_with fail
      refine D.out.mono ?_
      rintro e w' ⟨rfl, rfl⟩
      go_wp2_with fail
      go_ret2
      exact ⟨_, rfl, Kd.R_nil _ _ _ _ _, Below.refl _ _⟩
  · have hn : ¬ i < 0 := by omega
    have hi2 : ¬ (L1.length : Int) ≤ i := by omega
    rw [show atN 1 i L0 L1 = (0, L1.getD i.toNat []) by unfold atN dirL; rw [if_neg (by omega)]; rw [if_neg (show ¬ (1 : Int) = 0 by omega), if_neg hi]]
    clear hi
    obtain ⟨k, rfl⟩ := Int.eq_ofNat_of_zero_le (show 0 ≤ i by omega)
    rw [Int.toNat_natCast]
    obtain ⟨ad, A0, c0, rfl, hcell, hC0⟩ := at_K1 hC k (by omega)
    have hm : (L1.getD k []).length ≤ 300 := by
      rw [List.getD_eq_getElem?_getD, List.getElem?_eq_getElem (show k < L1.length by omega)]
      exact hsb _ (List.getElem_mem _)
    have CL := Lib.hid (clone_c A0 c0 (L1.getD k []) w hC0 (by omega))
    generalize L1.getD k [] = b at hcell CL hm
    clear hC hC0 hsb
    go_enter Try.func44, Try.ntmps44
    go_wp2_with fail
    refine D.out.mono ?_
    rintro e w' ⟨rfl, rfl⟩
    go_wp2_with fail
    refine CL.out.mono ?_
    rintro e w1 ⟨v, rfl, hr, hbl⟩
    go_wp2_with fail
    go_ret2
    exact ⟨_, rfl, hr, hbl⟩
theorem At_c (g base : Nat) (d i : Int) (L0 L1 : List (List Int)) (S : Nat → Prop) (w : World) (h : NetAt w g base L0 L1 S) :
    Calls Try.prog 44 #[.pointer (some ⟨g, 0, none⟩), .int .i64 d, .int .i64 i] w fun e w' => ∃ v, e = .returned (.tuple #[v, .int .i64 (atN d i L0 L1).1]) ∧ Kd.R KB 5 w' w.heap.size (fun _ => True) v (atN d i L0 L1).2 ∧ Below w.heap.size w w' := by
  rcases dir_cases d with hd | rfl | rfl
  · rw [show atN d i L0 L1 = (2, []) by unfold atN; rw [if_pos hd]]
    have D := Lib.hid (check_dir g d w (made_of w g base L0 L1 S h) hd)
    clear h hd
    go_enter Try.func44, Try.ntmps44
    go_wp2_with fail
    refine D.out.mono ?_
    rintro e w' ⟨rfl, rfl⟩
    go_wp2_with fail
    go_ret2
    exact ⟨_, rfl, Kd.R_nil _ _ _ _ _, Below.refl _ _⟩
  · exact At_0 g base i L0 L1 S w h
  · exact At_1 g base i L0 L1 S w h
end Go.Proofs.Ytajpnohhahffbaa.NetW
