/-
  DiceThrows: the words of its walk (printed by tools/mkdicet.py).
-/
import Derived.Test.YtoobbolaoldacaaDiceZD
import Derived.Test.YtoobbolaoldacaaDiceNW
namespace Go.Proofs.Ytoobbolaoldacaa.DiceW
open Go.RowKit Go.Proofs.Ytoobbolaoldacaa Go.Proofs.Ytoobbolaoldacaa.Dice Go.Proofs.Ytoobbolaoldacaa.DiceP Go.Proofs.Ytoobbolaoldacaa.RowOwn Go.Proofs.YtoobbolaoldacaaW.PrintWords Go.Proofs.YtoobbolaoldacaaW.PrintLast Go.Proofs.YtoobbolaoldacaaW.PrintMore
set_option linter.unusedVariables false
abbrev KI : Kd Int := Kd.int .i64
theorem at_KI {w : World} {A : Option Addr} {n : Nat} {xs : List Int} (h : Kd.C KI w A n xs) (i : Nat) (hi : i < xs.length) : ∃ ad, A = some ad ∧ w.cell? (ad.add i) = some (.int .i64 xs[i]) := by
  have hn : xs.length = n := h.1
  obtain ⟨ad, c, hA, hcl, hK, hcell⟩ := Kd.C_get h (0 : Int) (i : Int) (by omega) (by omega)
  rw [Int.toNat_natCast] at hK hcell
  rw [List.getD_eq_getElem?_getD, List.getElem?_eq_getElem hi] at hK
  have hK' : c = [Value.int .i64 xs[i]] := hK
  subst hK'
  have := hcell 0 _ rfl
  exact ⟨ad, hA, by simpa [Kd.int, Kd.scalar] using this⟩
/-- the boxes of DiceThrows: the settings at q, the weights at p, the dice at g (the program's) and g + 1 (the reference's) -/
def TI (w : World) (q p g : Nat) (c0 c1 c2 c3 c4 a0 a1 a2 a3 a4 a5 a6 a7 : Int) (x y : Nat) (W : World) : Prop :=
  W.heap[q]? = some (.cells #[.int .i64 c0, .int .i64 c1, .int .i64 c2, .int .i64 c3, .int .i64 c4] 92 (0, 0)) ∧ W.heap[p]? = some (.cells #[.int .i64 a0, .int .i64 a1, .int .i64 a2, .int .i64 a3, .int .i64 a4, .int .i64 a5, .int .i64 a6, .int .i64 a7] 93 (0, 0)) ∧ DAt 113 W g x ∧ DAt 149 W (g + 1) y ∧ Below w.heap.size w W ∧ w.heap.size ≤ q ∧ q < p ∧ p < g
section
variable {w W W' : World} {q p g x y z : Nat} {c0 c1 c2 c3 c4 a0 a1 a2 a3 a4 a5 a6 a7 : Int}
theorem ti_below (h : TI w q p g c0 c1 c2 c3 c4 a0 a1 a2 a3 a4 a5 a6 a7 x y W) (hb : Below W.heap.size W W') : TI w q p g c0 c1 c2 c3 c4 a0 a1 a2 a3 a4 a5 a6 a7 x y W' :=
  ⟨keep_at_all h.1 hb, keep_at_all h.2.1 hb, d_below h.2.2.1 hb, d_below h.2.2.2.1 hb, bl_then h.2.2.2.2.1 hb, h.2.2.2.2.2⟩
theorem ti_drew (h : TI w q p g c0 c1 c2 c3 c4 a0 a1 a2 a3 a4 a5 a6 a7 x y W) : TI w q p g c0 c1 c2 c3 c4 a0 a1 a2 a3 a4 a5 a6 a7 x y W.drew := ti_below h (bl_drew (Below.refl _ _) 1)
theorem ti_alloc (h : TI w q p g c0 c1 c2 c3 c4 a0 a1 a2 a3 a4 a5 a6 a7 x y W) (o : Obj) : TI w q p g c0 c1 c2 c3 c4 a0 a1 a2 a3 a4 a5 a6 a7 x y (W.alloc o) := ti_below h (bl_all (Below.refl _ _) _)
theorem ti_prog (h : TI w q p g c0 c1 c2 c3 c4 a0 a1 a2 a3 a4 a5 a6 a7 x y W) (hd : DAt 113 W' g z) (ho : OnlyS (· = g) W W') : TI w q p g c0 c1 c2 c3 c4 a0 a1 a2 a3 a4 a5 a6 a7 z y W' :=
  have h1 := h.2.2.2.2.2.1
  have h2 := h.2.2.2.2.2.2.1
  have h3 := h.2.2.2.2.2.2.2
  ⟨blk_only h.1 ho (by omega), blk_only h.2.1 ho (by omega), hd, d_only h.2.2.2.1 ho (fun he => by omega), ho.to_below h.2.2.2.2.1 (fun k hk => by omega) h.2.2.2.2.1.size, h.2.2.2.2.2⟩
theorem ti_ref (h : TI w q p g c0 c1 c2 c3 c4 a0 a1 a2 a3 a4 a5 a6 a7 x y W) (hd : DAt 149 W' (g + 1) z) (ho : OnlyS (· = g + 1) W W') : TI w q p g c0 c1 c2 c3 c4 a0 a1 a2 a3 a4 a5 a6 a7 x z W' :=
  have h1 := h.2.2.2.2.2.1
  have h2 := h.2.2.2.2.2.2.1
  have h3 := h.2.2.2.2.2.2.2
  ⟨blk_only h.1 ho (by omega), blk_only h.2.1 ho (by omega), d_only h.2.2.1 ho (fun he => by omega), hd, ho.to_below h.2.2.2.2.1 (fun k hk => by omega) h.2.2.2.2.1.size, h.2.2.2.2.2⟩
theorem ti_far {b : Nat} (h : TI w q p g c0 c1 c2 c3 c4 a0 a1 a2 a3 a4 a5 a6 a7 x y W) (ho : OnlyS (· = b) W W') (hb : g + 1 < b) : TI w q p g c0 c1 c2 c3 c4 a0 a1 a2 a3 a4 a5 a6 a7 x y W' :=
  have h1 := h.2.2.2.2.2.1
  have h2 := h.2.2.2.2.2.2.1
  have h3 := h.2.2.2.2.2.2.2
  ⟨blk_only h.1 ho (by omega), blk_only h.2.1 ho (by omega), d_only h.2.2.1 ho (fun he => by omega), d_only h.2.2.2.1 ho (fun he => by omega), ho.to_below h.2.2.2.2.1 (fun k hk => by omega) h.2.2.2.2.1.size, h.2.2.2.2.2⟩
theorem ti_far2 {b b' : Nat} (h : TI w q p g c0 c1 c2 c3 c4 a0 a1 a2 a3 a4 a5 a6 a7 x y W) (ho : OnlyS (fun k => k = b ∨ k = b') W W') (hb : g + 1 < b) (hb' : g + 1 < b') : TI w q p g c0 c1 c2 c3 c4 a0 a1 a2 a3 a4 a5 a6 a7 x y W' :=
  have h1 := h.2.2.2.2.2.1
  have h2 := h.2.2.2.2.2.2.1
  have h3 := h.2.2.2.2.2.2.2
  ⟨blk_only h.1 ho (by omega), blk_only h.2.1 ho (by omega), d_only h.2.2.1 ho (fun he => by omega), d_only h.2.2.2.1 ho (fun he => by omega), ho.to_below h.2.2.2.2.1 (fun k hk => by omega) h.2.2.2.2.1.size, h.2.2.2.2.2⟩
theorem ti_c (h : TI w q p g c0 c1 c2 c3 c4 a0 a1 a2 a3 a4 a5 a6 a7 x y W) : W.cell? ⟨q, 0, none⟩ = some (.int .i64 c0) ∧ W.cell? ⟨q, 1, none⟩ = some (.int .i64 c1) ∧ W.cell? ⟨q, 2, none⟩ = some (.int .i64 c2) ∧ W.cell? ⟨q, 3, none⟩ = some (.int .i64 c3) ∧ W.cell? ⟨q, 4, none⟩ = some (.int .i64 c4) :=
  ⟨blk_cell h.1 0, blk_cell h.1 1, blk_cell h.1 2, blk_cell h.1 3, blk_cell h.1 4⟩
theorem ti_cw (h : TI w q p g c0 c1 c2 c3 c4 a0 a1 a2 a3 a4 a5 a6 a7 x y W) : (W.cell? ⟨q, 0, none⟩ = some (.int .i64 c0) ∧ W.cell? ⟨q, 1, none⟩ = some (.int .i64 c1) ∧ W.cell? ⟨q, 2, none⟩ = some (.int .i64 c2) ∧ W.cell? ⟨q, 3, none⟩ = some (.int .i64 c3) ∧ W.cell? ⟨q, 4, none⟩ = some (.int .i64 c4)) ∧ (W.cell? ⟨p, 0, none⟩ = some (.int .i64 a0) ∧ W.cell? ⟨p, 1, none⟩ = some (.int .i64 a1) ∧ W.cell? ⟨p, 2, none⟩ = some (.int .i64 a2) ∧ W.cell? ⟨p, 3, none⟩ = some (.int .i64 a3) ∧ W.cell? ⟨p, 4, none⟩ = some (.int .i64 a4) ∧ W.cell? ⟨p, 5, none⟩ = some (.int .i64 a5) ∧ W.cell? ⟨p, 6, none⟩ = some (.int .i64 a6) ∧ W.cell? ⟨p, 7, none⟩ = some (.int .i64 a7)) :=
  ⟨⟨blk_cell h.1 0, blk_cell h.1 1, blk_cell h.1 2, blk_cell h.1 3, blk_cell h.1 4⟩, blk_cell h.2.1 0, blk_cell h.2.1 1, blk_cell h.2.1 2, blk_cell h.2.1 3, blk_cell h.2.1 4, blk_cell h.2.1 5, blk_cell h.2.1 6, blk_cell h.2.1 7⟩
theorem ti_dp (h : TI w q p g c0 c1 c2 c3 c4 a0 a1 a2 a3 a4 a5 a6 a7 x y W) : DAt 113 W g x := h.2.2.1
theorem ti_dr (h : TI w q p g c0 c1 c2 c3 c4 a0 a1 a2 a3 a4 a5 a6 a7 x y W) : DAt 149 W (g + 1) y := h.2.2.2.1
theorem ti_lt (h : TI w q p g c0 c1 c2 c3 c4 a0 a1 a2 a3 a4 a5 a6 a7 x y W) : g + 1 < W.heap.size := lt_at h.2.2.2.1
theorem ti_bel (h : TI w q p g c0 c1 c2 c3 c4 a0 a1 a2 a3 a4 a5 a6 a7 x y W) : Below w.heap.size w W := h.2.2.2.2.1
end
/-- bytes that a call made: their blocks lie from lo up to hi -/
def RD (W : World) (lo hi : Nat) (v : Value) (xs : List Int) : Prop := Kd.R KB 5 W lo (fun k => lo ≤ k ∧ k < hi) v xs ∧ hi ≤ W.heap.size ∧ lo ≤ hi
theorem rd_mk {W0 W : World} {v : Value} {xs : List Int} (h : Kd.R KB 5 W W0.heap.size (fun _ => True) v xs) (hs : W0.heap.size ≤ W.heap.size) : RD W W0.heap.size W.heap.size v xs :=
  ⟨Kd.R_mono (Kd.R_bound h) (fun k hk => ⟨hk.2.1, hk.2.2.1⟩), Nat.le_refl _, hs⟩
theorem rd_only {W W' : World} {S : Nat → Prop} {lo hi : Nat} {v : Value} {xs : List Int} (h : RD W lo hi v xs) (ho : OnlyS S W W') (hS : ∀ k, lo ≤ k → k < hi → ¬ S k) : RD W' lo hi v xs :=
  ⟨Kd.R_step h.1 (fun k hk hlt => ho.block k hlt (hS k hk.1 hk.2)), Nat.le_trans h.2.1 ho.size, h.2.2⟩
theorem rd_below {W W' : World} {lo hi : Nat} {v : Value} {xs : List Int} (h : RD W lo hi v xs) (hb : Below W.heap.size W W') : RD W' lo hi v xs :=
  rd_only (S := fun _ => False) h (OnlyS.of_below hb) (fun _ _ _ hf => hf)
theorem rd_reads {W : World} {lo hi : Nat} {v : Value} {xs : List Int} (h : RD W lo hi v xs) : ∃ A c, v = .slice A xs.length c ∧ xs.length ≤ c ∧ Kd.C KB W A xs.length xs := Kd.R_reads h.1
theorem same_rq (r : Rq) (A A' : Option Addr) (c c' : Nat) (w : World) (h : Kd.C KB w A r.data.length r.data) (hc : r.data.length ≤ c) (h' : Kd.C KB w A' r.data.length r.data) (hc' : r.data.length ≤ c') :
    Calls Try.prog 47 #[.agg #[.int .i64 r.kd, .int .i64 r.off, .int .i64 r.len, .slice A r.data.length c], .agg #[.int .i64 r.kd, .int .i64 r.off, .int .i64 r.len, .slice A' r.data.length c']] w fun e w' => e = .returned (.bool true) ∧ Below w.heap.size w w' :=
  twainref28_Same.calls _ _ _ A c _ _ _ _ A' c' _ true w h hc h' hc' (by simp [twainref28_Same.f])
/-- two acts as they stand in their boxes, alike -/
def TwoA (b b' : Nat) (a : Ac) (W : World) : Prop :=
  ∃ A c A' c', W.heap[b]? = some (.cells (acells a (.slice A a.r.data.length c)) 106 (0, 0)) ∧ W.heap[b']? = some (.cells (acells a (.slice A' a.r.data.length c')) 106 (0, 0)) ∧ a.r.data.length ≤ c ∧ a.r.data.length ≤ c' ∧ Kd.C KB W A a.r.data.length a.r.data ∧ Kd.C KB W A' a.r.data.length a.r.data
theorem two_end {W W1 W2 : World} {b b' lo hi lo' hi' : Nat} {a : Ac} {v v' : Value} (hne : b ≠ b') (h : W.heap[b]? = some (.cells #[.int .i64 0, .int .i64 0, .int .i64 0, .int .u64 0, .int .i64 0, .int .i64 0, .int .i64 0, .slice none 0 0] 106 (0, 0))) (h' : W.heap[b']? = some (.cells #[.int .i64 0, .int .i64 0, .int .i64 0, .int .u64 0, .int .i64 0, .int .i64 0, .int .i64 0, .slice none 0 0] 106 (0, 0)))
    (hr : RD W lo hi v a.r.data) (hr' : RD W lo' hi' v' a.r.data) (h1 : ∀ k, lo ≤ k → k < hi → ¬ (k = b ∨ k = b')) (h2 : ∀ k, lo' ≤ k → k < hi' → ¬ (k = b ∨ k = b'))
    (e1 : W1 = (((((((W.setCell ⟨b, 0, none⟩ (.int .i64 a.kind)).setCell ⟨b, 1, none⟩ (.int .i64 a.who)).setCell ⟨b, 2, none⟩ (.int .i64 a.at_)).setCell ⟨b, 3, none⟩ (.int .u64 a.mask)).setCell ⟨b, 4, none⟩ (.int .i64 a.r.kd)).setCell ⟨b, 5, none⟩ (.int .i64 a.r.off)).setCell ⟨b, 6, none⟩ (.int .i64 a.r.len)).setCell ⟨b, 7, none⟩ v)
    (e2 : W2 = (((((((W1.setCell ⟨b', 0, none⟩ (.int .i64 a.kind)).setCell ⟨b', 1, none⟩ (.int .i64 a.who)).setCell ⟨b', 2, none⟩ (.int .i64 a.at_)).setCell ⟨b', 3, none⟩ (.int .u64 a.mask)).setCell ⟨b', 4, none⟩ (.int .i64 a.r.kd)).setCell ⟨b', 5, none⟩ (.int .i64 a.r.off)).setCell ⟨b', 6, none⟩ (.int .i64 a.r.len)).setCell ⟨b', 7, none⟩ v') :
    TwoA b b' a W2 ∧ OnlyS (fun k => k = b ∨ k = b') W W2 := by
  have s1 := set8 (v0 := .int .i64 a.kind) (v1 := .int .i64 a.who) (v2 := .int .i64 a.at_) (v3 := .int .u64 a.mask) (v4 := .int .i64 a.r.kd) (v5 := .int .i64 a.r.off) (v6 := .int .i64 a.r.len) (v7 := v) h
  have o1 := only8 W b (.int .i64 a.kind) (.int .i64 a.who) (.int .i64 a.at_) (.int .u64 a.mask) (.int .i64 a.r.kd) (.int .i64 a.r.off) (.int .i64 a.r.len) v
  rw [← e1] at s1 o1
  have h3 := blk_only h' o1 (fun he => hne he.symm)
  have s2 := set8 (v0 := .int .i64 a.kind) (v1 := .int .i64 a.who) (v2 := .int .i64 a.at_) (v3 := .int .u64 a.mask) (v4 := .int .i64 a.r.kd) (v5 := .int .i64 a.r.off) (v6 := .int .i64 a.r.len) (v7 := v') h3
  have o2 := only8 W1 b' (.int .i64 a.kind) (.int .i64 a.who) (.int .i64 a.at_) (.int .u64 a.mask) (.int .i64 a.r.kd) (.int .i64 a.r.off) (.int .i64 a.r.len) v'
  rw [← e2] at s2 o2
  have s3 := blk_only s1 o2 hne
  have o3 : OnlyS (fun k => k = b ∨ k = b') W W2 := ((OnlyS.refl (fun k => k = b ∨ k = b') W).trans o1 (fun k hk => .inl (.inl hk))).trans o2 (fun k hk => .inl (.inr hk))
  have hr3 := rd_only hr o3 h1
  have hr4 := rd_only hr' o3 h2
  obtain ⟨A, c, rfl, hc, hC⟩ := rd_reads hr3
  obtain ⟨A', c', rfl, hc', hC'⟩ := rd_reads hr4
  exact ⟨⟨A, c, A', c', s3, s2, hc, hc', hC, hC'⟩, o3⟩
end Go.Proofs.Ytoobbolaoldacaa.DiceW
