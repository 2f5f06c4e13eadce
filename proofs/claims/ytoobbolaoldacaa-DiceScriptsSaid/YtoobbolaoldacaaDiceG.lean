/-
  Dice: a script, the program's, over the contract of an act (printed by tools/mkdiceg.py).
-/
import Derived.Test.YtoobbolaoldacaaDiceF
namespace Go.Proofs.Ytoobbolaoldacaa.DiceW
open Go.RowKit Go.Proofs.Ytoobbolaoldacaa Go.Proofs.Ytoobbolaoldacaa.Dice Go.Proofs.Ytoobbolaoldacaa.DiceP Go.Proofs.Ytoobbolaoldacaa.RowOwn Go.Proofs.YtoobbolaoldacaaW.PrintWords Go.Proofs.YtoobbolaoldacaaW.PrintLast Go.Proofs.YtoobbolaoldacaaW.PrintMore
set_option linter.unusedVariables false
def KA : Kd Ac := Kd.iso (Kd.pair (Kd.int .i64) (Kd.pair (Kd.int .i64) (Kd.pair (Kd.int .i64) (Kd.pair (Kd.int .u64) (Kd.pair (Kd.int .i64) (Kd.pair (Kd.int .i64) (Kd.pair (Kd.int .i64) (Kd.slice 5 KB)))))))) (fun x : Ac => (x.kind, x.who, x.at_, x.mask, x.r.kd, x.r.off, x.r.len, x.r.data))
theorem KA_mkM {w : World} {base : Nat} {ok : Nat → Prop} (x : Ac) {v : Value} (h : Kd.R KB 5 w base ok v x.r.data) : KA.M w base ok x (acells x v).toList :=
  ⟨[_], _, rfl, rfl, [_], _, rfl, rfl, [_], _, rfl, rfl, [_], _, rfl, rfl, [_], _, rfl, rfl, [_], _, rfl, rfl, [_], _, rfl, rfl, ⟨v, rfl, h⟩⟩
theorem info106 : (Try.prog.info? 106).map (fun i => (i.zero, i.size, i.bytes)) = some (some (.agg #[.int .i64 0, .int .i64 0, .int .i64 0, .int .u64 0, .int .i64 0, .int .i64 0, .int .i64 0, .slice none 0 0]), KA.sz, 80) := by kernel_rfl
theorem info107 : (Try.prog.info? 107).map (fun i => (i.zero, i.size, i.bytes)) = some (some (.agg #[.int .i64 0, .int .i64 0, .int .i64 0, .int .u64 0, .int .i64 0, .int .i64 0, .int .i64 0, .slice none 0 0]), KA.sz, 80) := by kernel_rfl
/-- one act, boxed for an append -/
theorem made_boxA {w w3 : World} {base e : Nat} {v3 : Value} (x : Ac) (hr3 : Kd.R KB 5 w3 w.heap.size (fun _ => True) v3 x.r.data) (hb : base ≤ w.heap.size) :
    Made KA (w3.alloc (.cells #[.int .i64 x.kind, .int .i64 x.who, .int .i64 x.at_, .int .u64 x.mask, .int .i64 x.r.kd, .int .i64 x.r.off, .int .i64 x.r.len, v3] e)) base (fun k => w.heap.size ≤ k ∧ k < w3.heap.size) (some ⟨w3.heap.size, 0, none⟩) 1 [x] := by
  refine ⟨rfl, fun _ => ⟨_, #[.int .i64 x.kind, .int .i64 x.who, .int .i64 x.at_, .int .u64 x.mask, .int .i64 x.r.kd, .int .i64 x.r.off, .int .i64 x.r.len, v3].toList, rfl, ⟨rfl, fun j p hj => ?_⟩, fun j u hu => ?_⟩⟩
  · match j, hj with
    | 0, hj =>
      injection hj with hj
      subst hj
      exact KA_mkM x (Kd.R_alloc (Kd.R_lower (Kd.R_mono (Kd.R_bound hr3) (fun k hk => ⟨hk.2.1, hk.2.2.1⟩)) hb) _)
    | j + 1, hj => simp at hj
  · have hn := new_at w3 (.cells #[.int .i64 x.kind, .int .i64 x.who, .int .i64 x.at_, .int .u64 x.mask, .int .i64 x.r.kd, .int .i64 x.r.off, .int .i64 x.r.len, v3] e)
    match j, hu with
    | 0, hu => injection hu with hu; subst hu; exact blk_cell hn 0
    | 1, hu => injection hu with hu; subst hu; exact blk_cell hn 1
    | 2, hu => injection hu with hu; subst hu; exact blk_cell hn 2
    | 3, hu => injection hu with hu; subst hu; exact blk_cell hn 3
    | 4, hu => injection hu with hu; subst hu; exact blk_cell hn 4
    | 5, hu => injection hu with hu; subst hu; exact blk_cell hn 5
    | 6, hu => injection hu with hu; subst hu; exact blk_cell hn 6
    | 7, hu => injection hu with hu; subst hu; exact blk_cell hn 7
    | j + 8, hu => simp at hu
/-- what an act leaves -/
def ActQ (t : Nat) (W : World) (g : Nat) (r : Ac × Nat) (e : Ending) (w' : World) : Prop :=
  ∃ v, e = .returned (.agg (acells r.1 v)) ∧ Kd.R KB 5 w' W.heap.size (fun _ => True) v r.1.r.data ∧ DAt t w' g r.2 ∧ OnlyS (· = g) W w'
def stN (F : Nat → Ac × Nat) : Nat → Nat → Nat
  | 0, x => x
  | n + 1, x => (F (stN F n x)).2
def scL (F : Nat → Ac × Nat) (n x : Nat) : List Ac := (List.range n).map (fun i => (F (stN F i x)).1)
theorem scL_len (F : Nat → Ac × Nat) (n x : Nat) : (scL F n x).length = n := by simp [scL]
theorem scL_succ (F : Nat → Ac × Nat) (n x : Nat) : scL F (n + 1) x = scL F n x ++ [(F (stN F n x)).1] := by simp [scL, List.range_succ]
theorem stN_live {F : Nat → Ac × Nat} (hF : ∀ x, Live x → Live (F x).2) {x : Nat} (hx : Live x) : ∀ n, Live (stN F n x)
  | 0 => hx
  | n + 1 => hF _ (stN_live hF hx n)
/-- the boxes of a script: the settings at q, the weights behind them -/
def SI (tw : Nat) (w : World) (q : Nat) (c0 c1 c2 c3 c4 a0 a1 a2 a3 a4 a5 a6 a7 : Int) (W : World) : Prop :=
  W.heap[q]? = some (.cells #[.int .i64 c0, .int .i64 c1, .int .i64 c2, .int .i64 c3, .int .i64 c4] 92 (0, 0)) ∧ W.heap[q + 1]? = some (.cells #[.int .i64 a0, .int .i64 a1, .int .i64 a2, .int .i64 a3, .int .i64 a4, .int .i64 a5, .int .i64 a6, .int .i64 a7] tw (0, 0)) ∧ Below w.heap.size w W ∧ w.heap.size = q
section
variable {tw : Nat} {w W W' : World} {q g : Nat} {c0 c1 c2 c3 c4 a0 a1 a2 a3 a4 a5 a6 a7 : Int}
theorem si_below (h : SI tw w q c0 c1 c2 c3 c4 a0 a1 a2 a3 a4 a5 a6 a7 W) (hb : Below W.heap.size W W') : SI tw w q c0 c1 c2 c3 c4 a0 a1 a2 a3 a4 a5 a6 a7 W' :=
  ⟨keep_at_all h.1 hb, keep_at_all h.2.1 hb, bl_then h.2.2.1 hb, h.2.2.2⟩
theorem si_lt (h : SI tw w q c0 c1 c2 c3 c4 a0 a1 a2 a3 a4 a5 a6 a7 W) : q + 1 < W.heap.size := lt_at h.2.1
theorem si_only (h : SI tw w q c0 c1 c2 c3 c4 a0 a1 a2 a3 a4 a5 a6 a7 W) (ho : OnlyS (· = g) W W') (hg : q + 1 < g) : SI tw w q c0 c1 c2 c3 c4 a0 a1 a2 a3 a4 a5 a6 a7 W' :=
  ⟨blk_only h.1 ho (fun he => by omega), blk_only h.2.1 ho (fun he => by omega), ho.to_below h.2.2.1 (fun k hk => by have := h.2.2.2; omega) h.2.2.1.size, h.2.2.2⟩
theorem si_grown {row : Option Nat} (h : SI tw w q c0 c1 c2 c3 c4 a0 a1 a2 a3 a4 a5 a6 a7 W) (hg : W.grownBy W' row) (hr : ∀ k, row = some k → q + 1 < k) : SI tw w q c0 c1 c2 c3 c4 a0 a1 a2 a3 a4 a5 a6 a7 W' :=
  ⟨keep_at_grown h.1 hg (fun he => by have := hr _ he.symm; omega), keep_at_grown h.2.1 hg (fun he => by have := hr _ he.symm; omega), h.2.2.1.grown hg h.2.2.1.size (fun k hk => by have := hr _ hk; have := h.2.2.2; omega), h.2.2.2⟩
theorem si_ws (h : SI tw w q c0 c1 c2 c3 c4 a0 a1 a2 a3 a4 a5 a6 a7 W) : W.cell? ⟨q + 1, 0, none⟩ = some (.int .i64 a0) ∧ W.cell? ⟨q + 1, 1, none⟩ = some (.int .i64 a1) ∧ W.cell? ⟨q + 1, 2, none⟩ = some (.int .i64 a2) ∧ W.cell? ⟨q + 1, 3, none⟩ = some (.int .i64 a3) ∧ W.cell? ⟨q + 1, 4, none⟩ = some (.int .i64 a4) ∧ W.cell? ⟨q + 1, 5, none⟩ = some (.int .i64 a5) ∧ W.cell? ⟨q + 1, 6, none⟩ = some (.int .i64 a6) ∧ W.cell? ⟨q + 1, 7, none⟩ = some (.int .i64 a7) :=
  ⟨blk_cell h.2.1 0, blk_cell h.2.1 1, blk_cell h.2.1 2, blk_cell h.2.1 3, blk_cell h.2.1 4, blk_cell h.2.1 5, blk_cell h.2.1 6, blk_cell h.2.1 7⟩
theorem si_cf (h : SI tw w q c0 c1 c2 c3 c4 a0 a1 a2 a3 a4 a5 a6 a7 W) : W.cell? ⟨q, 0, none⟩ = some (.int .i64 c0) ∧ W.cell? ⟨q, 1, none⟩ = some (.int .i64 c1) ∧ W.cell? ⟨q, 2, none⟩ = some (.int .i64 c2) ∧ W.cell? ⟨q, 3, none⟩ = some (.int .i64 c3) ∧ W.cell? ⟨q, 4, none⟩ = some (.int .i64 c4) :=
  ⟨blk_cell h.1 0, blk_cell h.1 1, blk_cell h.1 2, blk_cell h.1 3, blk_cell h.1 4⟩
end
set_option maxRecDepth 20000 in
set_option maxHeartbeats 4000000 in
theorem script_with (F : Nat → Ac × Nat) (s n : Nat) (c0 c1 c2 c3 c4 a0 a1 a2 a3 a4 a5 a6 a7 : Int) (w : World) (hs : s < 18446744073709551616) (hn : n ≤ 1000) (hg : reqGood c0 c1 c2 c3 c4 = true) (hsum : sum8 a0 a1 a2 a3 a4 a5 a6 a7 ≠ 0) (hFl : ∀ x, Live x → Live (F x).2)
    (hA : ∀ (W : World) (g x : Nat), Live x → DAt 113 W g x → Calls Try.prog 51 #[.pointer (some ⟨g, 0, none⟩), Cf c0 c1 c2 c3 c4, W8 a0 a1 a2 a3 a4 a5 a6 a7] W (ActQ 113 W g (F x))) :
    Calls Try.prog 52 #[.int .u64 (s : Int), Cf c0 c1 c2 c3 c4, .int .i64 (n : Int), W8 a0 a1 a2 a3 a4 a5 a6 a7] w fun e w' => ∃ v, e = .returned v ∧ Row KA 106 w' w.heap.size (fun _ => True) v (scL F n (seedN s)) ∧ Below w.heap.size w w' := by
  have SM := Lib.hid (fun w => sum_walk a0 a1 a2 a3 a4 a5 a6 a7 w)
  have GD := Lib.hid (fun w => reqGood_walk c0 c1 c2 c3 c4 w)
  have HG := Lib.hid hg
  have HSM := Lib.hid hsum
  have HA := Lib.hid hA
  have hn1 : ¬ (n : Int) < 0 := by omega
  have hn2 : ¬ (n : Int) > 1000 := by omega
  have NW := Lib.hid (fun w => new_walk s w hs)
  have HLS := Lib.hid (fun k => stN_live hFl (seed_live hs) k)
  clear hg hsum hA
  go_enter Try.func52, Try.ntmps52
  go_upto_region 1 with (fail)
  have hS : SI 110 w w.heap.size c0 c1 c2 c3 c4 a0 a1 a2 a3 a4 a5 a6 a7 ((w.alloc (.cells #[.int .i64 c0, .int .i64 c1, .int .i64 c2, .int .i64 c3, .int .i64 c4] 92)).alloc (.cells #[.int .i64 a0, .int .i64 a1, .int .i64 a2, .int .i64 a3, .int .i64 a4, .int .i64 a5, .int .i64 a6, .int .i64 a7] 110)) :=
    ⟨old_at (new_at _ _) _, new_at1 _ _ _, bl_all (bl_all (Below.refl _ _) _) _, rfl⟩
  generalize (w.alloc (.cells #[.int .i64 c0, .int .i64 c1, .int .i64 c2, .int .i64 c3, .int .i64 c4] 92)).alloc (.cells #[.int .i64 a0, .int .i64 a1, .int .i64 a2, .int .i64 a3, .int .i64 a4, .int .i64 a5, .int .i64 a6, .int .i64 a7] 110) = W0 at hS ⊢
  generalize hq : w.heap.size = q at hS ⊢
  have HQ := Lib.hid hq
  clear hq
  obtain ⟨f0, f1, f2, f3, f4⟩ := si_cf hS
  have HS0 := Lib.hid hS
  clear hS
  go_wp2_with (first
    | (go_at_call 53; refine (GD.out _).mono ?_; rw [HG.out]; rintro e w3 ⟨rfl, hb3⟩; have HS3 := Lib.hid (si_below HS0.out hb3); obtain ⟨e0, e1, e2, e3, e4, e5, e6, e7⟩ := si_ws HS3.out; clear f0 f1 f2 f3 f4 HS0 hb3)
    | (go_at_call 87; refine (SM.out _).mono ?_; rintro e w1 ⟨rfl, hb1⟩; have HS1 := Lib.hid (si_below HS3.out hb1); have hs0 : ¬ sum8 a0 a1 a2 a3 a4 a5 a6 a7 = 0 := HSM.out; clear e0 e1 e2 e3 e4 e5 e6 e7 HS3 hb1)
    | (go_at_call 41; refine (NW.out _).mono ?_; rintro e w4 ⟨rfl, rfl⟩; have HD4 := Lib.hid (show DAt 113 (w1.alloc (.cells #[.int .u64 (seedN s : Int)] 113)) w1.heap.size (seedN s) from new_at _ _); have HS4 := Lib.hid (si_below HS1.out (bl_all (Below.refl _ _) (.cells #[.int .u64 (seedN s : Int)] 113)))))
  have hgq := si_lt HS1.out
  generalize hwg : w1.alloc (.cells #[.int .u64 (seedN s : Int)] 113) = W1 at HD4 HS4 ⊢
  generalize w1.heap.size = g at HD4 hgq ⊢
  clear HS1 hwg hs0 SM GD HG HSM NW
  go_loopw [10, 30] (fun lv iv wr => ∃ (k : Nat), k ≤ n ∧ iv = .int .i64 (k : Int) ∧ Hid (Row KA 106 wr q (fun j => j ≠ g ∧ q + 1 < j) lv (scL F k (seedN s))) ∧ Hid (DAt 113 wr g (stN F k (seedN s))) ∧ Hid (SI 110 w q c0 c1 c2 c3 c4 a0 a1 a2 a3 a4 a5 a6 a7 wr))
    (fun _ i _ => n - (intOf i).toNat)
  case atStart => exact ⟨0, Nat.zero_le _, rfl, Lib.hid (row_nil _ _ _ _ _), HD4, HS4⟩
  case round =>
    obtain ⟨k, hk, rfl, hrow, hd, hsi⟩ := hrel
    clear HD4 HS4
    by_cases hlt : k < n
    · have hlt' : (k : Int) < (n : Int) := by omega
      obtain ⟨f0, f1, f2, f3, f4⟩ := si_cf hsi.out
      obtain ⟨e0, e1, e2, e3, e4, e5, e6, e7⟩ := si_ws hsi.out
      have HA1 := Lib.hid (HA.out wr g _ (HLS.out k) hd.out)
      have hx := Lib.hid (scL_succ F k (seedN s))
      have hst : stN F (k + 1) (seedN s) = (F (stN F k (seedN s))).2 := rfl
      have HST := Lib.hid hst
      clear hst
      generalize F (stN F k (seedN s)) = ac at HA1 hx HST
      obtain ⟨A0, c0', rfl, hc0, _⟩ := row_reads hrow.out
      have hL := Lib.hid (scL_len F k (seedN s))
      go_wp2_with (first
        | (go_at_call 51; refine HA1.out.mono ?_; rintro e w5 ⟨v5, rfl, hr5, hd5, ho5⟩; have hs5 := si_only hsi.out ho5 hgq; have hrow5 := row_only hrow.out ho5 (fun k hk => hk.1); clear f0 f1 f2 f3 f4 e0 e1 e2 e3 e4 e5 e6 e7; obtain ⟨A5, c5, rfl⟩ := Kd.R_slice hr5; have HR5 := Lib.hid hr5; have HD5 := Lib.hid hd5; have HS5 := Lib.hid hs5; have HROW5 := Lib.hid hrow5; have HSZ := Lib.hid ho5.size; clear hr5 hd5 hs5 hrow5 ho5)
        | ((with_reducible refine gate_builtin (b := .append) (xs := #[.tmp 32, .tmp 37]) rfl ?_); at_builtin; refine row_append_list (d := KA) (base := q) (w := w5.alloc (.cells (acells ac.1 (.slice A5 ac.1.r.data.length c5)) 106)) (ok := fun j => j ≠ g ∧ q + 1 < j) (okp := fun j => wr.heap.size ≤ j ∧ j < w5.heap.size) (xs := scL F k (seedN s)) (ys := [ac.1]) (m := 1) (c2 := 1) (A := some ⟨w5.heap.size, 0, none⟩) rfl (.tmp 32) (.tmp 37) 116 106 (.agg #[.int .i64 0, .int .i64 0, .int .i64 0, .int .u64 0, .int .i64 0, .int .i64 0, .int .i64 0, .slice none 0 0]) 80 rfl Try.underlying116 info106 rfl (by decide) (by omega) rfl rfl ?aO ?aM ?aP ?aF ?aS ?aL ?_; (case aO => exact row_step HROW5.out (fun j _ hj => Below.heap_alloc _ _ _ hj)); (case aM => exact made_boxA ac.1 HR5.out (Nat.le_of_lt (Nat.lt_of_succ_lt (si_lt hsi.out)))); (case aP => exact fun j hj => ⟨⟨fun he => by have := d_lt hd.out; omega, by have := si_lt hsi.out; omega⟩, fun he => by have := (row_own_g (row_bound hrow.out) j he.symm).2.2; omega⟩); (case aF => exact fun j hj => by have h1 := d_lt HD5.out; have h2 := si_lt HS5.out; rw [World.size_alloc] at hj; exact ⟨by omega, by omega⟩); (case aS => have h2 := si_lt HS5.out; rw [World.size_alloc]; omega); (case aL => rw [hL.out]; omega); intro v6 w6 hrow6 hgr6 hat6; have HROW6 := Lib.hid hrow6; have HGR6 := Lib.hid hgr6; clear hrow6 hgr6 hat6))
      go_wp2_with fail
      refine ⟨⟨k + 1, by omega, by go_num, ?_, ?_, ?_⟩, by simp [intOf]; omega⟩
      · rw [hx.out]
        exact HROW6
      · rw [HST.out]
        exact Lib.hid (keep_at_grown (old_at HD5.out _) HGR6.out (fun he => (row_own_g hrow.out g he.symm).1 rfl))
      · exact Lib.hid (si_grown (si_below HS5.out (bl_all (Below.refl _ _) _)) HGR6.out (fun j hj => (row_own_g hrow.out j hj).2))
    · have hlt' : ¬ (k : Int) < (n : Int) := by omega
      obtain rfl : k = n := by omega
      go_wp2_with fail
      go_ret
      refine ⟨_, rfl, ?_, ?_⟩
      · have h1 := row_mono (ok' := fun _ => True) hrow.out (fun _ _ => trivial)
        rw [← HQ.out] at h1
        exact h1
      · exact hsi.out.2.2.1
end Go.Proofs.Ytoobbolaoldacaa.DiceW
