/-
  DiceScripts: its walk (printed by tools/mkdicesw.py).
-/
import Derived.Test.YtoobbolaoldacaaDiceSB
import Derived.Test.YtoobbolaoldacaaDiceQS
import Derived.Test.YtoobbolaoldacaaDiceQG
namespace Go.Proofs.Ytoobbolaoldacaa.DiceW
open Go.RowKit Go.Proofs.Ytoobbolaoldacaa Go.Proofs.Ytoobbolaoldacaa.Dice Go.Proofs.Ytoobbolaoldacaa.DiceP Go.Proofs.Ytoobbolaoldacaa.RowOwn Go.Proofs.YtoobbolaoldacaaW.PrintWords Go.Proofs.YtoobbolaoldacaaW.PrintLast Go.Proofs.YtoobbolaoldacaaW.PrintMore
set_option linter.unusedVariables false
/-- the boxes of DiceScripts: the settings at q, the weights at p -/
def WI (w : World) (q p : Nat) (c0 c1 c2 c3 c4 a0 a1 a2 a3 a4 a5 a6 a7 : Int) (W : World) : Prop :=
  W.heap[q]? = some (.cells #[.int .i64 c0, .int .i64 c1, .int .i64 c2, .int .i64 c3, .int .i64 c4] 92 (0, 0)) ∧ W.heap[p]? = some (.cells #[.int .i64 a0, .int .i64 a1, .int .i64 a2, .int .i64 a3, .int .i64 a4, .int .i64 a5, .int .i64 a6, .int .i64 a7] 93 (0, 0)) ∧ Below w.heap.size w W ∧ w.heap.size ≤ q ∧ q < p
section
variable {w W W' : World} {q p : Nat} {c0 c1 c2 c3 c4 a0 a1 a2 a3 a4 a5 a6 a7 : Int}
theorem wi_below (h : WI w q p c0 c1 c2 c3 c4 a0 a1 a2 a3 a4 a5 a6 a7 W) (hb : Below W.heap.size W W') : WI w q p c0 c1 c2 c3 c4 a0 a1 a2 a3 a4 a5 a6 a7 W' := ⟨keep_at_all h.1 hb, keep_at_all h.2.1 hb, bl_then h.2.2.1 hb, h.2.2.2⟩
theorem wi_drew (h : WI w q p c0 c1 c2 c3 c4 a0 a1 a2 a3 a4 a5 a6 a7 W) : WI w q p c0 c1 c2 c3 c4 a0 a1 a2 a3 a4 a5 a6 a7 W.drew := wi_below h (bl_drew (Below.refl _ _) 1)
theorem wi_cw (h : WI w q p c0 c1 c2 c3 c4 a0 a1 a2 a3 a4 a5 a6 a7 W) : (W.cell? ⟨q, 0, none⟩ = some (.int .i64 c0) ∧ W.cell? ⟨q, 1, none⟩ = some (.int .i64 c1) ∧ W.cell? ⟨q, 2, none⟩ = some (.int .i64 c2) ∧ W.cell? ⟨q, 3, none⟩ = some (.int .i64 c3) ∧ W.cell? ⟨q, 4, none⟩ = some (.int .i64 c4)) ∧ (W.cell? ⟨p, 0, none⟩ = some (.int .i64 a0) ∧ W.cell? ⟨p, 1, none⟩ = some (.int .i64 a1) ∧ W.cell? ⟨p, 2, none⟩ = some (.int .i64 a2) ∧ W.cell? ⟨p, 3, none⟩ = some (.int .i64 a3) ∧ W.cell? ⟨p, 4, none⟩ = some (.int .i64 a4) ∧ W.cell? ⟨p, 5, none⟩ = some (.int .i64 a5) ∧ W.cell? ⟨p, 6, none⟩ = some (.int .i64 a6) ∧ W.cell? ⟨p, 7, none⟩ = some (.int .i64 a7)) :=
  ⟨⟨blk_cell h.1 0, blk_cell h.1 1, blk_cell h.1 2, blk_cell h.1 3, blk_cell h.1 4⟩, blk_cell h.2.1 0, blk_cell h.2.1 1, blk_cell h.2.1 2, blk_cell h.2.1 3, blk_cell h.2.1 4, blk_cell h.2.1 5, blk_cell h.2.1 6, blk_cell h.2.1 7⟩
theorem wi_bel (h : WI w q p c0 c1 c2 c3 c4 a0 a1 a2 a3 a4 a5 a6 a7 W) : Below w.heap.size w W := h.2.2.1
theorem wi_lt (h : WI w q p c0 c1 c2 c3 c4 a0 a1 a2 a3 a4 a5 a6 a7 W) : p < W.heap.size := lt_at h.2.1
end
theorem scrG_len (n : Int) (c0 c1 c2 c3 c4 a0 a1 a2 a3 a4 a5 a6 a7 : Int) (s : Nat) : (scrG n c0 c1 c2 c3 c4 a0 a1 a2 a3 a4 a5 a6 a7 s).length ≤ 1000 := by
  unfold scrG
  split
  · exact Nat.zero_le _
  · rename_i h
    rw [scL_len]
    omega
theorem scrG_nil {n : Int} (c0 c1 c2 c3 c4 a0 a1 a2 a3 a4 a5 a6 a7 : Int) (s : Nat) (h : n < 0 ∨ 1000 < n) : scrG n c0 c1 c2 c3 c4 a0 a1 a2 a3 a4 a5 a6 a7 s = [] := if_pos (by rcases h with h | h; exact .inl h; exact .inr (.inl h))
theorem scrG_some {n : Int} {c0 c1 c2 c3 c4 a0 a1 a2 a3 a4 a5 a6 a7 : Int} {s : Nat} (h : scrG n c0 c1 c2 c3 c4 a0 a1 a2 a3 a4 a5 a6 a7 s ≠ []) : reqGood c0 c1 c2 c3 c4 = true ∧ sum8 a0 a1 a2 a3 a4 a5 a6 a7 ≠ 0 ∧ scrG n c0 c1 c2 c3 c4 a0 a1 a2 a3 a4 a5 a6 a7 s = scL (actN c0 a0 a1 a2 a3 a4 a5 a6 a7) n.toNat (seedN s) := by
  unfold scrG at h ⊢
  by_cases hb : n < 0 ∨ 1000 < n ∨ reqGood c0 c1 c2 c3 c4 = false ∨ sum8 a0 a1 a2 a3 a4 a5 a6 a7 = 0
  · rw [if_pos hb] at h
    exact absurd rfl h
  · refine ⟨?_, fun hz => hb (.inr (.inr (.inr hz))), if_neg hb⟩
    cases hg : reqGood c0 c1 c2 c3 c4 with
    | true => rfl
    | false => exact absurd (.inr (.inr (.inl hg))) hb
theorem scrG_all {n : Int} {c0 c1 c2 c3 c4 a0 a1 a2 a3 a4 a5 a6 a7 : Int} (s : Nat) (h0 : 0 ≤ n) (h1 : n ≤ 1000) (hg : reqGood c0 c1 c2 c3 c4 = true) (hs : sum8 a0 a1 a2 a3 a4 a5 a6 a7 ≠ 0) : scrG n c0 c1 c2 c3 c4 a0 a1 a2 a3 a4 a5 a6 a7 s = scL (actN c0 a0 a1 a2 a3 a4 a5 a6 a7) n.toNat (seedN s) := by
  refine if_neg ?_
  rintro (h | h | h | h)
  · omega
  · omega
  · rw [hg] at h; cases h
  · exact hs h
theorem scL_take (F : Nat → Ac × Nat) (a b x : Nat) : (scL F (a + b) x).take a = scL F a x := by
  unfold scL
  rw [← List.map_take, List.take_range, Nat.min_eq_left (Nat.le_add_right a b)]
theorem same60_n (A A' : Option Addr) (c c' n : Nat) (L : List Ac) (w : World) (hn : L.length = n) (hl : L.length ≤ 1000) (hC : Kd.C KA w A L.length L) (hC' : Kd.C KA w A' n L) :
    Calls Try.prog 60 #[.slice A L.length c, .slice A' n c'] w fun e w' => e = .returned (.bool true) ∧ Below w.heap.size w w' := by
  subst hn
  exact same60 A A' c c' L w hl hC hC'
set_option maxRecDepth 20000 in
set_option maxHeartbeats 4000000 in
theorem scripts_walk (s : Nat) (hs : s < 18446744073709551616) (n m : Int) (hn : -9223372036854775808 ≤ n ∧ n < 9223372036854775808) (hm : -9223372036854775808 ≤ m ∧ m < 9223372036854775808) (c0 c1 c2 c3 c4 a0 a1 a2 a3 a4 a5 a6 a7 : Int) (w : World) :
    Calls Try.prog 12 #[Cf c0 c1 c2 c3 c4, .agg #[.int .u64 (s : Int), .int .i64 n, .int .i64 m, .int .i64 a0, .int .i64 a1, .int .i64 a2, .int .i64 a3, .int .i64 a4, .int .i64 a5, .int .i64 a6, .int .i64 a7]] w fun e w' => e = .returned (.bool true) ∧ Below w.heap.size w w' := by
  have HSS := Lib.hid hs
  have hq0 := old_at (new_at w (.cells #[.int .i64 c0, .int .i64 c1, .int .i64 c2, .int .i64 c3, .int .i64 c4] 92)) (.cells #[.int .u64 (s : Int), .int .i64 n, .int .i64 m, .int .i64 a0, .int .i64 a1, .int .i64 a2, .int .i64 a3, .int .i64 a4, .int .i64 a5, .int .i64 a6, .int .i64 a7] 123)
  have hi0 := new_at1 w (.cells #[.int .i64 c0, .int .i64 c1, .int .i64 c2, .int .i64 c3, .int .i64 c4] 92) (.cells #[.int .u64 (s : Int), .int .i64 n, .int .i64 m, .int .i64 a0, .int .i64 a1, .int .i64 a2, .int .i64 a3, .int .i64 a4, .int .i64 a5, .int .i64 a6, .int .i64 a7] 123)
  have hb0 : Below w.heap.size w ((w.alloc (.cells #[.int .i64 c0, .int .i64 c1, .int .i64 c2, .int .i64 c3, .int .i64 c4] 92)).alloc (.cells #[.int .u64 (s : Int), .int .i64 n, .int .i64 m, .int .i64 a0, .int .i64 a1, .int .i64 a2, .int .i64 a3, .int .i64 a4, .int .i64 a5, .int .i64 a6, .int .i64 a7] 123)) := bl_all (bl_all (Below.refl _ _) _) _
  have hsz : ((w.alloc (.cells #[.int .i64 c0, .int .i64 c1, .int .i64 c2, .int .i64 c3, .int .i64 c4] 92)).alloc (.cells #[.int .u64 (s : Int), .int .i64 n, .int .i64 m, .int .i64 a0, .int .i64 a1, .int .i64 a2, .int .i64 a3, .int .i64 a4, .int .i64 a5, .int .i64 a6, .int .i64 a7] 123)).heap.size = w.heap.size + 1 + 1 := by simp [World.size_alloc]
  clear hs
  go_enter Try.func12, Try.ntmps12
  go_upto_region 1 with (fail)
  generalize ((w.alloc (.cells #[.int .i64 c0, .int .i64 c1, .int .i64 c2, .int .i64 c3, .int .i64 c4] 92)).alloc (.cells #[.int .u64 (s : Int), .int .i64 n, .int .i64 m, .int .i64 a0, .int .i64 a1, .int .i64 a2, .int .i64 a3, .int .i64 a4, .int .i64 a5, .int .i64 a6, .int .i64 a7] 123)) = W0 at hq0 hi0 hb0 hsz ⊢
  generalize hq : w.heap.size = q at hq0 hi0 hsz ⊢
  have HQ := Lib.hid hq
  clear hq
  have HQ0 := Lib.hid hq0
  have HI0 := Lib.hid hi0
  have HB0 := Lib.hid hb0
  clear hq0 hb0
  have e0 := blk_cell hi0 0
  have e1 := blk_cell hi0 1
  have e2 := blk_cell hi0 2
  have e3 := blk_cell hi0 3
  have e4 := blk_cell hi0 4
  have e5 := blk_cell hi0 5
  have e6 := blk_cell hi0 6
  have e7 := blk_cell hi0 7
  have e8 := blk_cell hi0 8
  have e9 := blk_cell hi0 9
  have e10 := blk_cell hi0 10
  clear hi0
  refine start_ (n := 13) (S := fun w' => w'.cell? ⟨q + 1, 0, none⟩ = some (.int .u64 (s : Int)) ∧ w'.cell? ⟨q + 1, 1, none⟩ = some (.int .i64 n) ∧ w'.cell? ⟨q + 1, 2, none⟩ = some (.int .i64 m) ∧ w'.cell? ⟨q + 1, 3, none⟩ = some (.int .i64 a0) ∧ w'.cell? ⟨q + 1, 4, none⟩ = some (.int .i64 a1) ∧ w'.cell? ⟨q + 1, 5, none⟩ = some (.int .i64 a2) ∧ w'.cell? ⟨q + 1, 6, none⟩ = some (.int .i64 a3) ∧ w'.cell? ⟨q + 1, 7, none⟩ = some (.int .i64 a4) ∧ w'.cell? ⟨q + 1, 8, none⟩ = some (.int .i64 a5) ∧ w'.cell? ⟨q + 1, 9, none⟩ = some (.int .i64 a6) ∧ w'.cell? ⟨q + 1, 10, none⟩ = some (.int .i64 a7)) (ds := [12]) #[false, false, false, false, false, false, false, false, false, false, false, false, false] (by kernel_rfl) rfl rfl ⟨e0, e1, e2, e3, e4, e5, e6, e7, e8, e9, e10⟩ (fun hHeld => ?_)
  refine pure_ (i := 0) (N := some 11) (v := ?_) (a' := ?_) #[true, false, false, false, false, false, false, false, false, false, false, false, false] rfl rfl (by kernel_rfl) (fun _ _ _ h => h) (Or.inl ⟨by rfl, ?_⟩) ?_ ?_
  rotate_left
  · intro w'
    go_simp
    with_reducible rfl
  rotate_left
  · simp only [Act.put, List.setIfInBounds_toArray, List.set_cons_zero, List.set_cons_succ]
    rfl
  refine pure_ (i := 2) (N := some 13) (v := ?_) (a' := ?_) #[true, false, true, false, false, false, false, false, false, false, false, false, false] rfl rfl (by kernel_rfl) (fun _ _ _ h => h) (Or.inl ⟨by rfl, ?_⟩) ?_ ?_
  rotate_left
  · intro w'
    go_simp
    with_reducible rfl
  rotate_left
  · simp only [Act.put, List.setIfInBounds_toArray, List.set_cons_zero, List.set_cons_succ]
    rfl
  refine pure_ (i := 4) (N := some 15) (v := ?_) (a' := ?_) #[true, false, true, false, true, false, false, false, false, false, false, false, false] rfl rfl (by kernel_rfl) (fun _ _ _ h => h) (Or.inl ⟨by rfl, ?_⟩) ?_ ?_
  rotate_left
  · intro w'
    go_simp
    with_reducible rfl
  rotate_left
  · simp only [Act.put, List.setIfInBounds_toArray, List.set_cons_zero, List.set_cons_succ]
    rfl
  refine pure_ (i := 6) (N := some 17) (v := ?_) (a' := ?_) #[true, false, true, false, true, false, true, false, false, false, false, false, false] rfl rfl (by kernel_rfl) (fun _ _ _ h => h) (Or.inl ⟨by rfl, ?_⟩) ?_ ?_
  rotate_left
  · intro w'
    go_simp
    with_reducible rfl
  rotate_left
  · simp only [Act.put, List.setIfInBounds_toArray, List.set_cons_zero, List.set_cons_succ]
    rfl
  refine take_ (i := 1) (N := some 12) (v := ?_) (a' := ?_) #[true, true, true, false, true, false, true, false, false, false, false, false, false] rfl rfl (by kernel_rfl) (fun _ _ _ h => h) (Or.inl ⟨by rfl, ?_⟩) hHeld ?_ ?_
  rotate_left
  · rintro w' ⟨s0, s1, s2, s3, s4, s5, s6, s7, s8, s9, s10⟩
    go_simp
    with_reducible rfl
  rotate_left
  · simp only [Act.put, List.setIfInBounds_toArray, List.set_cons_zero, List.set_cons_succ]
    rfl
  refine take_ (i := 3) (N := some 14) (v := ?_) (a' := ?_) #[true, true, true, true, true, false, true, false, false, false, false, false, false] rfl rfl (by kernel_rfl) (fun _ _ _ h => h) (Or.inl ⟨by rfl, ?_⟩) hHeld ?_ ?_
  rotate_left
  · rintro w' ⟨s0, s1, s2, s3, s4, s5, s6, s7, s8, s9, s10⟩
    go_simp
    with_reducible rfl
  rotate_left
  · simp only [Act.put, List.setIfInBounds_toArray, List.set_cons_zero, List.set_cons_succ]
    rfl
  refine take_ (i := 5) (N := some 16) (v := ?_) (a' := ?_) #[true, true, true, true, true, true, true, false, false, false, false, false, false] rfl rfl (by kernel_rfl) (fun _ _ _ h => h) (Or.inl ⟨by rfl, ?_⟩) hHeld ?_ ?_
  rotate_left
  · rintro w' ⟨s0, s1, s2, s3, s4, s5, s6, s7, s8, s9, s10⟩
    go_simp
    with_reducible rfl
  rotate_left
  · simp only [Act.put, List.setIfInBounds_toArray, List.set_cons_zero, List.set_cons_succ]
    rfl
  refine take_ (i := 7) (N := some 18) (v := ?_) (a' := ?_) #[true, true, true, true, true, true, true, true, false, false, false, false, false] rfl rfl (by kernel_rfl) (fun _ _ _ h => h) (Or.inl ⟨by rfl, ?_⟩) hHeld ?_ ?_
  rotate_left
  · rintro w' ⟨s0, s1, s2, s3, s4, s5, s6, s7, s8, s9, s10⟩
    go_simp
    with_reducible rfl
  rotate_left
  · simp only [Act.put, List.setIfInBounds_toArray, List.set_cons_zero, List.set_cons_succ]
    rfl
  refine one_ (i := 8) (N := some 8) #[true, true, true, true, true, true, true, true, true, false, false, false, false] rfl rfl (by kernel_rfl) (by decide) (fun K hK => ?_)
  go_simp
  have hn' : ((W0.alloc (.cells #[.int .i64 0, .int .i64 0, .int .i64 0, .int .i64 0, .int .i64 0, .int .i64 0, .int .i64 0, .int .i64 0] 93)).drew).heap[q + 1 + 1]? = some (.cells #[.int .i64 0, .int .i64 0, .int .i64 0, .int .i64 0, .int .i64 0, .int .i64 0, .int .i64 0, .int .i64 0] 93 (0, 0)) := by
    have h := new_at W0 (.cells #[.int .i64 0, .int .i64 0, .int .i64 0, .int .i64 0, .int .i64 0, .int .i64 0, .int .i64 0, .int .i64 0] 93)
    rw [hsz] at h
    exact h
  have hi1 : ((W0.alloc (.cells #[.int .i64 0, .int .i64 0, .int .i64 0, .int .i64 0, .int .i64 0, .int .i64 0, .int .i64 0, .int .i64 0] 93)).drew).heap[q + 1]? = some (.cells #[.int .u64 (s : Int), .int .i64 n, .int .i64 m, .int .i64 a0, .int .i64 a1, .int .i64 a2, .int .i64 a3, .int .i64 a4, .int .i64 a5, .int .i64 a6, .int .i64 a7] 123 (0, 0)) := old_at HI0.out _
  refine hK.out _ _ ⟨blk_cell hi1 0, blk_cell hi1 1, blk_cell hi1 2, blk_cell hi1 3, blk_cell hi1 4, blk_cell hi1 5, blk_cell hi1 6, blk_cell hi1 7, blk_cell hi1 8, blk_cell hi1 9, blk_cell hi1 10⟩ (fun hHeld => ?_)
  clear hK K
  refine pure_ (i := 9) (N := some 5) (v := ?_) (a' := ?_) #[true, true, true, true, true, true, true, true, true, true, false, false, false] rfl rfl (by kernel_rfl) (fun _ _ _ h => h) (Or.inl ⟨by rfl, ?_⟩) ?_ ?_
  rotate_left
  · intro w'
    go_simp
    with_reducible rfl
  rotate_left
  · simp only [Act.put, List.setIfInBounds_toArray, List.set_cons_zero, List.set_cons_succ]
    rfl
  refine pure_ (i := 10) (N := some 6) (v := ?_) (a' := ?_) #[true, true, true, true, true, true, true, true, true, true, true, false, false] rfl rfl (by kernel_rfl) (fun _ _ _ h => h) (Or.inl ⟨by rfl, ?_⟩) ?_ ?_
  rotate_left
  · intro w'
    go_simp
    with_reducible rfl
  rotate_left
  · simp only [Act.put, List.setIfInBounds_toArray, List.set_cons_zero, List.set_cons_succ]
    rfl
  refine pure_ (i := 11) (N := some 7) (v := ?_) (a' := ?_) #[true, true, true, true, true, true, true, true, true, true, true, true, false] rfl rfl (by kernel_rfl) (fun _ _ _ h => h) (Or.inl ⟨by rfl, ?_⟩) ?_ ?_
  rotate_left
  · intro w'
    go_simp
    with_reducible rfl
  rotate_left
  · simp only [Act.put, List.setIfInBounds_toArray, List.set_cons_zero, List.set_cons_succ]
    rfl
  obtain ⟨n0, n1, n2, n3, n4, n5, n6, n7⟩ := cl8 hn'
  obtain ⟨m0, m1, m2, m3, m4, m5, m6, m7⟩ := fz8 hn'
  refine last_ (i := 12) (N := none) #[true, true, true, true, true, true, true, true, true, true, true, true, true] rfl rfl (by kernel_rfl) (by decide) (fun K hK => ?_)
  go_simp
  refine hK.out _ _ ?_
  clear hK K
  refine done_ (by kernel_rfl) ?_
  have hT : WI w q (q + 1 + 1) c0 c1 c2 c3 c4 a0 a1 a2 a3 a4 a5 a6 a7 ((W0.alloc (.cells #[.int .i64 a0, .int .i64 a1, .int .i64 a2, .int .i64 a3, .int .i64 a4, .int .i64 a5, .int .i64 a6, .int .i64 a7] 93)).drew) := by
    have h := new_at W0 (.cells #[.int .i64 a0, .int .i64 a1, .int .i64 a2, .int .i64 a3, .int .i64 a4, .int .i64 a5, .int .i64 a6, .int .i64 a7] 93)
    rw [hsz] at h
    exact ⟨old_at HQ0.out _, h, bl_drew (bl_all HB0.out _) 1, Nat.le_of_eq HQ.out, by omega⟩
  generalize (W0.alloc (.cells #[.int .i64 a0, .int .i64 a1, .int .i64 a2, .int .i64 a3, .int .i64 a4, .int .i64 a5, .int .i64 a6, .int .i64 a7] 93)).drew = W1 at hT ⊢
  generalize q + 1 + 1 = p at hT ⊢
  have HT := Lib.hid hT
  clear hT hi1 hn' n0 n1 n2 n3 n4 n5 n6 n7 m0 m1 m2 m3 m4 m5 m6 m7 e0 e1 e2 e3 e4 e5 e6 e7 e8 e9 e10 hHeld HQ0 HI0 HB0 hsz HQ
  have LV := Lib.hid lives41
  by_cases h1 : n > 100 ∧ n ≤ 1000
  · obtain ⟨h2, h3⟩ := h1
    go_wp2_with (go_at_call 40; refine (LV.out _).mono ?_; rintro e w9 ⟨rfl, hb9⟩)
    go_ret
    exact ⟨rfl, bl_then (wi_bel HT.out) hb9⟩
  by_cases hm1 : m < 0
  · by_cases h2 : n > 100
    · have h3 : ¬ n ≤ 1000 := fun h => h1 ⟨h2, h⟩
      go_wp2_with (go_at_call 40; refine (LV.out _).mono ?_; rintro e w9 ⟨rfl, hb9⟩)
      go_ret
      exact ⟨rfl, bl_then (wi_bel HT.out) hb9⟩
    · go_wp2_with (go_at_call 40; refine (LV.out _).mono ?_; rintro e w9 ⟨rfl, hb9⟩)
      go_ret
      exact ⟨rfl, bl_then (wi_bel HT.out) hb9⟩
  by_cases hm2 : m > 50
  · by_cases h2 : n > 100
    · have h3 : ¬ n ≤ 1000 := fun h => h1 ⟨h2, h⟩
      go_wp2_with (go_at_call 40; refine (LV.out _).mono ?_; rintro e w9 ⟨rfl, hb9⟩)
      go_ret
      exact ⟨rfl, bl_then (wi_bel HT.out) hb9⟩
    · go_wp2_with (go_at_call 40; refine (LV.out _).mono ?_; rintro e w9 ⟨rfl, hb9⟩)
      go_ret
      exact ⟨rfl, bl_then (wi_bel HT.out) hb9⟩
  have SC := Lib.hid (fun w => script_any s n c0 c1 c2 c3 c4 a0 a1 a2 a3 a4 a5 a6 a7 w HSS.out)
  have SR := Lib.hid (fun w => rscript_any s n c0 c1 c2 c3 c4 a0 a1 a2 a3 a4 a5 a6 a7 w HSS.out)
  have hl := scrG_len n c0 c1 c2 c3 c4 a0 a1 a2 a3 a4 a5 a6 a7 s
  obtain ⟨L, hL⟩ : ∃ L, scrG n c0 c1 c2 c3 c4 a0 a1 a2 a3 a4 a5 a6 a7 s = L := ⟨_, rfl⟩
  rw [hL] at SC SR hl
  have HL := Lib.hid hL
  have HLL := Lib.hid hl
  clear hL hl
  obtain ⟨⟨f0, f1, f2, f3, f4⟩, g0, g1, g2, g3, g4, g5, g6, g7⟩ := wi_cw HT.out
  by_cases h2 : n > 100
  · have h3 : ¬ n ≤ 1000 := fun h => h1 ⟨h2, h⟩
    have hL0 : L = [] := by
      rw [← HL.out]
      exact scrG_nil c0 c1 c2 c3 c4 a0 a1 a2 a3 a4 a5 a6 a7 s (.inr (by omega))
    have hl0 : (L.length : Int) = 0 := by rw [hL0]; rfl
    have h4 : ¬ n < 0 := by omega
    clear hL0
    go_upto_region 5 with (go_at_call 52; refine (SC.out _).mono ?_; rintro e w1 ⟨v1, rfl, hrow, hb1⟩; obtain ⟨A1, d1, he1, hd1, hC1⟩ := row_reads hrow; subst he1; have HT1 := Lib.hid (wi_below HT.out hb1); have HC1 := Lib.hid hC1; clear f0 f1 f2 f3 f4 g0 g1 g2 g3 g4 g5 g6 g7 hrow hb1 hC1)
    clear HT SC
    refine start_ (n := 9) (S := fun w' => (w'.cell? ⟨q, 0, none⟩ = some (.int .i64 c0) ∧ w'.cell? ⟨q, 1, none⟩ = some (.int .i64 c1) ∧ w'.cell? ⟨q, 2, none⟩ = some (.int .i64 c2) ∧ w'.cell? ⟨q, 3, none⟩ = some (.int .i64 c3) ∧ w'.cell? ⟨q, 4, none⟩ = some (.int .i64 c4)) ∧ (w'.cell? ⟨p, 0, none⟩ = some (.int .i64 a0) ∧ w'.cell? ⟨p, 1, none⟩ = some (.int .i64 a1) ∧ w'.cell? ⟨p, 2, none⟩ = some (.int .i64 a2) ∧ w'.cell? ⟨p, 3, none⟩ = some (.int .i64 a3) ∧ w'.cell? ⟨p, 4, none⟩ = some (.int .i64 a4) ∧ w'.cell? ⟨p, 5, none⟩ = some (.int .i64 a5) ∧ w'.cell? ⟨p, 6, none⟩ = some (.int .i64 a6) ∧ w'.cell? ⟨p, 7, none⟩ = some (.int .i64 a7))) (ds := []) #[false, false, false, false, false, false, false, false, false] (by kernel_rfl) rfl rfl (wi_cw (wi_drew HT1.out)) (fun hHeld => ?_)
    have hT2 := wi_drew HT1.out
    have hC2 : Kd.C KA w1.drew A1 L.length L := Kd.C_below HC1.out (bl_drew (Below.refl _ _) 1)
    generalize w1.drew = w2 at hT2 hC2 hHeld ⊢
    clear HT1 HC1
    refine pure_ (i := 0) (N := some 39) (v := ?_) (a' := ?_) #[true, false, false, false, false, false, false, false, false] rfl rfl (by kernel_rfl) (fun _ _ _ h => h) (Or.inl ⟨by rfl, ?_⟩) ?_ ?_
    rotate_left
    · intro w'
      go_simp
      with_reducible rfl
    rotate_left
    · simp only [Act.put, List.setIfInBounds_toArray, List.set_cons_zero, List.set_cons_succ]
      rfl
    refine pure_ (i := 2) (N := some 41) (v := ?_) (a' := ?_) #[true, false, true, false, false, false, false, false, false] rfl rfl (by kernel_rfl) (fun _ _ _ h => h) (Or.inl ⟨by rfl, ?_⟩) ?_ ?_
    rotate_left
    · intro w'
      go_simp
      with_reducible rfl
    rotate_left
    · simp only [Act.put, List.setIfInBounds_toArray, List.set_cons_zero, List.set_cons_succ]
      rfl
    refine pure_ (i := 4) (N := some 43) (v := ?_) (a' := ?_) #[true, false, true, false, true, false, false, false, false] rfl rfl (by kernel_rfl) (fun _ _ _ h => h) (Or.inl ⟨by rfl, ?_⟩) ?_ ?_
    rotate_left
    · intro w'
      go_simp
      with_reducible rfl
    rotate_left
    · simp only [Act.put, List.setIfInBounds_toArray, List.set_cons_zero, List.set_cons_succ]
      rfl
    refine take_ (i := 3) (N := some 42) (v := ?_) (a' := ?_) #[true, false, true, true, true, false, false, false, false] rfl rfl (by kernel_rfl) (fun _ _ _ h => h) (Or.inl ⟨by rfl, ?_⟩) hHeld ?_ ?_
    rotate_left
    · rintro w' ⟨⟨s0, s1, s2, s3, s4⟩, t0, t1, t2, t3, t4, t5, t6, t7⟩
      go_simp
      with_reducible rfl
    rotate_left
    · simp only [Act.put, List.setIfInBounds_toArray, List.set_cons_zero, List.set_cons_succ]
      rfl
    refine take_ (i := 5) (N := some 44) (v := ?_) (a' := ?_) #[true, false, true, true, true, true, false, false, false] rfl rfl (by kernel_rfl) (fun _ _ _ h => h) (Or.inl ⟨by rfl, ?_⟩) hHeld ?_ ?_
    rotate_left
    · rintro w' ⟨⟨s0, s1, s2, s3, s4⟩, t0, t1, t2, t3, t4, t5, t6, t7⟩
      go_simp
      with_reducible rfl
    rotate_left
    · simp only [Act.put, List.setIfInBounds_toArray, List.set_cons_zero, List.set_cons_succ]
      rfl
    refine one_ (i := 1) (N := some 40) #[true, true, true, true, true, true, false, false, false] rfl rfl (by kernel_rfl) (by decide) (fun K hK => ?_)
    refine goes_ Try.func57 (by kernel_rfl) rfl #[.slice A1 L.length d1] (by rfl) rfl rfl (by (try simp only [List.map_toArray, List.map_cons, List.map_nil]); first | done | rfl) ?_
    refine (acts_c A1 d1 L _ hC2 HLL.out).mono ?_
    rintro e w3 ⟨A3, d3, rfl, hd3, hC3, hb3⟩
    have hT3 := wi_below hT2 hb3
    have hC3' := Kd.C_below hC2 hb3
    refine ⟨_, rfl, ?_⟩
    refine hK.out _ _ (wi_cw hT3) (fun hHeld => ?_)
    clear hK K
    refine norm_ (a' := ?_) ?_ ?_
    rotate_left
    · show Act.put _ (some 40) _ = _
      simp only [Act.put, List.setIfInBounds_toArray, List.set_cons_zero, List.set_cons_succ]
      rfl
    refine one_ (i := 6) (N := some 45) #[true, true, true, true, true, true, true, false, false] rfl rfl (by kernel_rfl) (by decide) (fun K hK => ?_)
    refine goes_ Try.func58 (by kernel_rfl) rfl #[.int .u64 (s : Int), Cf c0 c1 c2 c3 c4, .int .i64 n, W8 a0 a1 a2 a3 a4 a5 a6 a7] (by rfl) rfl rfl (by (try simp only [List.map_toArray, List.map_cons, List.map_nil]); first | done | rfl) ?_
    refine (SR.out _).mono ?_
    rintro e w4 ⟨v4, rfl, hrow, hb4⟩
    obtain ⟨A4, d4, he4, hd4, hC4⟩ := row_reads hrow
    subst he4
    have hT4 := wi_below hT3 hb4
    have hC4' := Kd.C_below hC3' hb4
    have hC4'' := Kd.C_below hC3 hb4
    refine ⟨_, rfl, ?_⟩
    refine hK.out _ _ (wi_cw hT4) (fun hHeld => ?_)
    clear hK K
    refine norm_ (a' := ?_) ?_ ?_
    rotate_left
    · show Act.put _ (some 45) _ = _
      simp only [Act.put, List.setIfInBounds_toArray, List.set_cons_zero, List.set_cons_succ]
      rfl
    refine one_ (i := 7) (N := some 46) #[true, true, true, true, true, true, true, true, false] rfl rfl (by kernel_rfl) (by decide) (fun K hK => ?_)
    refine goes_ Try.func56 (by kernel_rfl) rfl #[.slice A3 L.length d3, .slice A4 L.length d4] (by rfl) rfl rfl (by (try simp only [List.map_toArray, List.map_cons, List.map_nil]); first | done | rfl) ?_
    refine (same38 A3 A4 d3 d4 L _ HLL.out hC4'' hC4).mono ?_
    rintro e w5 ⟨rfl, hb5⟩
    have hT5 := wi_below hT4 hb5
    have hC5 := Kd.C_below hC4' hb5
    refine ⟨_, rfl, ?_⟩
    refine hK.out _ _ (wi_cw hT5) (fun hHeld => ?_)
    clear hK K
    refine norm_ (a' := ?_) ?_ ?_
    rotate_left
    · show Act.put _ (some 46) _ = _
      simp only [Act.put, List.setIfInBounds_toArray, List.set_cons_zero, List.set_cons_succ]
      rfl
    refine pure_ (i := 8) (N := some 47) (v := ?_) (a' := ?_) #[true, true, true, true, true, true, true, true, true] rfl rfl (by kernel_rfl) (fun _ _ _ h => h) (Or.inl ⟨by rfl, ?_⟩) ?_ ?_
    rotate_left
    · intro w'
      go_simp
      with_reducible rfl
    rotate_left
    · simp only [Act.put, List.setIfInBounds_toArray, List.set_cons_zero, List.set_cons_succ]
      rfl
    refine done_ (by kernel_rfl) ?_
    clear hT2 hC2 hT3 hC3 hC3' hT4 hC4 hC4' hC4'' hHeld hd3 hd4 SR
    have HT5 := Lib.hid hT5
    have HC5 := Lib.hid hC5
    clear hT5 hC5
    go_wp2_with (go_at_call 40; refine (LV.out _).mono ?_; rintro e w9 ⟨rfl, hb9⟩)
    go_ret
    exact ⟨rfl, bl_then (wi_bel HT5.out) hb9⟩
  by_cases h4 : n < 0
  · have hL0 : L = [] := by
      rw [← HL.out]
      exact scrG_nil c0 c1 c2 c3 c4 a0 a1 a2 a3 a4 a5 a6 a7 s (.inl h4)
    have hl0 : (L.length : Int) = 0 := by rw [hL0]; rfl
    clear hL0
    go_upto_region 5 with (go_at_call 52; refine (SC.out _).mono ?_; rintro e w1 ⟨v1, rfl, hrow, hb1⟩; obtain ⟨A1, d1, he1, hd1, hC1⟩ := row_reads hrow; subst he1; have HT1 := Lib.hid (wi_below HT.out hb1); have HC1 := Lib.hid hC1; clear f0 f1 f2 f3 f4 g0 g1 g2 g3 g4 g5 g6 g7 hrow hb1 hC1)
    clear HT SC
    refine start_ (n := 9) (S := fun w' => (w'.cell? ⟨q, 0, none⟩ = some (.int .i64 c0) ∧ w'.cell? ⟨q, 1, none⟩ = some (.int .i64 c1) ∧ w'.cell? ⟨q, 2, none⟩ = some (.int .i64 c2) ∧ w'.cell? ⟨q, 3, none⟩ = some (.int .i64 c3) ∧ w'.cell? ⟨q, 4, none⟩ = some (.int .i64 c4)) ∧ (w'.cell? ⟨p, 0, none⟩ = some (.int .i64 a0) ∧ w'.cell? ⟨p, 1, none⟩ = some (.int .i64 a1) ∧ w'.cell? ⟨p, 2, none⟩ = some (.int .i64 a2) ∧ w'.cell? ⟨p, 3, none⟩ = some (.int .i64 a3) ∧ w'.cell? ⟨p, 4, none⟩ = some (.int .i64 a4) ∧ w'.cell? ⟨p, 5, none⟩ = some (.int .i64 a5) ∧ w'.cell? ⟨p, 6, none⟩ = some (.int .i64 a6) ∧ w'.cell? ⟨p, 7, none⟩ = some (.int .i64 a7))) (ds := []) #[false, false, false, false, false, false, false, false, false] (by kernel_rfl) rfl rfl (wi_cw (wi_drew HT1.out)) (fun hHeld => ?_)
    have hT2 := wi_drew HT1.out
    have hC2 : Kd.C KA w1.drew A1 L.length L := Kd.C_below HC1.out (bl_drew (Below.refl _ _) 1)
    generalize w1.drew = w2 at hT2 hC2 hHeld ⊢
    clear HT1 HC1
    refine pure_ (i := 0) (N := some 39) (v := ?_) (a' := ?_) #[true, false, false, false, false, false, false, false, false] rfl rfl (by kernel_rfl) (fun _ _ _ h => h) (Or.inl ⟨by rfl, ?_⟩) ?_ ?_
    rotate_left
    · intro w'
      go_simp
      with_reducible rfl
    rotate_left
    · simp only [Act.put, List.setIfInBounds_toArray, List.set_cons_zero, List.set_cons_succ]
      rfl
    refine pure_ (i := 2) (N := some 41) (v := ?_) (a' := ?_) #[true, false, true, false, false, false, false, false, false] rfl rfl (by kernel_rfl) (fun _ _ _ h => h) (Or.inl ⟨by rfl, ?_⟩) ?_ ?_
    rotate_left
    · intro w'
      go_simp
      with_reducible rfl
    rotate_left
    · simp only [Act.put, List.setIfInBounds_toArray, List.set_cons_zero, List.set_cons_succ]
      rfl
    refine pure_ (i := 4) (N := some 43) (v := ?_) (a' := ?_) #[true, false, true, false, true, false, false, false, false] rfl rfl (by kernel_rfl) (fun _ _ _ h => h) (Or.inl ⟨by rfl, ?_⟩) ?_ ?_
    rotate_left
    · intro w'
      go_simp
      with_reducible rfl
    rotate_left
    · simp only [Act.put, List.setIfInBounds_toArray, List.set_cons_zero, List.set_cons_succ]
      rfl
    refine take_ (i := 3) (N := some 42) (v := ?_) (a' := ?_) #[true, false, true, true, true, false, false, false, false] rfl rfl (by kernel_rfl) (fun _ _ _ h => h) (Or.inl ⟨by rfl, ?_⟩) hHeld ?_ ?_
    rotate_left
    · rintro w' ⟨⟨s0, s1, s2, s3, s4⟩, t0, t1, t2, t3, t4, t5, t6, t7⟩
      go_simp
      with_reducible rfl
    rotate_left
    · simp only [Act.put, List.setIfInBounds_toArray, List.set_cons_zero, List.set_cons_succ]
      rfl
    refine take_ (i := 5) (N := some 44) (v := ?_) (a' := ?_) #[true, false, true, true, true, true, false, false, false] rfl rfl (by kernel_rfl) (fun _ _ _ h => h) (Or.inl ⟨by rfl, ?_⟩) hHeld ?_ ?_
    rotate_left
    · rintro w' ⟨⟨s0, s1, s2, s3, s4⟩, t0, t1, t2, t3, t4, t5, t6, t7⟩
      go_simp
      with_reducible rfl
    rotate_left
    · simp only [Act.put, List.setIfInBounds_toArray, List.set_cons_zero, List.set_cons_succ]
      rfl
    refine one_ (i := 1) (N := some 40) #[true, true, true, true, true, true, false, false, false] rfl rfl (by kernel_rfl) (by decide) (fun K hK => ?_)
    refine goes_ Try.func57 (by kernel_rfl) rfl #[.slice A1 L.length d1] (by rfl) rfl rfl (by (try simp only [List.map_toArray, List.map_cons, List.map_nil]); first | done | rfl) ?_
    refine (acts_c A1 d1 L _ hC2 HLL.out).mono ?_
    rintro e w3 ⟨A3, d3, rfl, hd3, hC3, hb3⟩
    have hT3 := wi_below hT2 hb3
    have hC3' := Kd.C_below hC2 hb3
    refine ⟨_, rfl, ?_⟩
    refine hK.out _ _ (wi_cw hT3) (fun hHeld => ?_)
    clear hK K
    refine norm_ (a' := ?_) ?_ ?_
    rotate_left
    · show Act.put _ (some 40) _ = _
      simp only [Act.put, List.setIfInBounds_toArray, List.set_cons_zero, List.set_cons_succ]
      rfl
    refine one_ (i := 6) (N := some 45) #[true, true, true, true, true, true, true, false, false] rfl rfl (by kernel_rfl) (by decide) (fun K hK => ?_)
    refine goes_ Try.func58 (by kernel_rfl) rfl #[.int .u64 (s : Int), Cf c0 c1 c2 c3 c4, .int .i64 n, W8 a0 a1 a2 a3 a4 a5 a6 a7] (by rfl) rfl rfl (by (try simp only [List.map_toArray, List.map_cons, List.map_nil]); first | done | rfl) ?_
    refine (SR.out _).mono ?_
    rintro e w4 ⟨v4, rfl, hrow, hb4⟩
    obtain ⟨A4, d4, he4, hd4, hC4⟩ := row_reads hrow
    subst he4
    have hT4 := wi_below hT3 hb4
    have hC4' := Kd.C_below hC3' hb4
    have hC4'' := Kd.C_below hC3 hb4
    refine ⟨_, rfl, ?_⟩
    refine hK.out _ _ (wi_cw hT4) (fun hHeld => ?_)
    clear hK K
    refine norm_ (a' := ?_) ?_ ?_
    rotate_left
    · show Act.put _ (some 45) _ = _
      simp only [Act.put, List.setIfInBounds_toArray, List.set_cons_zero, List.set_cons_succ]
      rfl
    refine one_ (i := 7) (N := some 46) #[true, true, true, true, true, true, true, true, false] rfl rfl (by kernel_rfl) (by decide) (fun K hK => ?_)
    refine goes_ Try.func56 (by kernel_rfl) rfl #[.slice A3 L.length d3, .slice A4 L.length d4] (by rfl) rfl rfl (by (try simp only [List.map_toArray, List.map_cons, List.map_nil]); first | done | rfl) ?_
    refine (same38 A3 A4 d3 d4 L _ HLL.out hC4'' hC4).mono ?_
    rintro e w5 ⟨rfl, hb5⟩
    have hT5 := wi_below hT4 hb5
    have hC5 := Kd.C_below hC4' hb5
    refine ⟨_, rfl, ?_⟩
    refine hK.out _ _ (wi_cw hT5) (fun hHeld => ?_)
    clear hK K
    refine norm_ (a' := ?_) ?_ ?_
    rotate_left
    · show Act.put _ (some 46) _ = _
      simp only [Act.put, List.setIfInBounds_toArray, List.set_cons_zero, List.set_cons_succ]
      rfl
    refine pure_ (i := 8) (N := some 47) (v := ?_) (a' := ?_) #[true, true, true, true, true, true, true, true, true] rfl rfl (by kernel_rfl) (fun _ _ _ h => h) (Or.inl ⟨by rfl, ?_⟩) ?_ ?_
    rotate_left
    · intro w'
      go_simp
      with_reducible rfl
    rotate_left
    · simp only [Act.put, List.setIfInBounds_toArray, List.set_cons_zero, List.set_cons_succ]
      rfl
    refine done_ (by kernel_rfl) ?_
    clear hT2 hC2 hT3 hC3 hC3' hT4 hC4 hC4' hC4'' hHeld hd3 hd4 SR
    have HT5 := Lib.hid hT5
    have HC5 := Lib.hid hC5
    clear hT5 hC5
    go_wp2_with (go_at_call 40; refine (LV.out _).mono ?_; rintro e w9 ⟨rfl, hb9⟩)
    go_ret
    exact ⟨rfl, bl_then (wi_bel HT5.out) hb9⟩
  go_upto_region 5 with (go_at_call 52; refine (SC.out _).mono ?_; rintro e w1 ⟨v1, rfl, hrow, hb1⟩; obtain ⟨A1, d1, he1, hd1, hC1⟩ := row_reads hrow; subst he1; have HT1 := Lib.hid (wi_below HT.out hb1); have HC1 := Lib.hid hC1; clear f0 f1 f2 f3 f4 g0 g1 g2 g3 g4 g5 g6 g7 hrow hb1 hC1)
  clear HT SC
  refine start_ (n := 9) (S := fun w' => (w'.cell? ⟨q, 0, none⟩ = some (.int .i64 c0) ∧ w'.cell? ⟨q, 1, none⟩ = some (.int .i64 c1) ∧ w'.cell? ⟨q, 2, none⟩ = some (.int .i64 c2) ∧ w'.cell? ⟨q, 3, none⟩ = some (.int .i64 c3) ∧ w'.cell? ⟨q, 4, none⟩ = some (.int .i64 c4)) ∧ (w'.cell? ⟨p, 0, none⟩ = some (.int .i64 a0) ∧ w'.cell? ⟨p, 1, none⟩ = some (.int .i64 a1) ∧ w'.cell? ⟨p, 2, none⟩ = some (.int .i64 a2) ∧ w'.cell? ⟨p, 3, none⟩ = some (.int .i64 a3) ∧ w'.cell? ⟨p, 4, none⟩ = some (.int .i64 a4) ∧ w'.cell? ⟨p, 5, none⟩ = some (.int .i64 a5) ∧ w'.cell? ⟨p, 6, none⟩ = some (.int .i64 a6) ∧ w'.cell? ⟨p, 7, none⟩ = some (.int .i64 a7))) (ds := []) #[false, false, false, false, false, false, false, false, false] (by kernel_rfl) rfl rfl (wi_cw (wi_drew HT1.out)) (fun hHeld => ?_)
  have hT2 := wi_drew HT1.out
  have hC2 : Kd.C KA w1.drew A1 L.length L := Kd.C_below HC1.out (bl_drew (Below.refl _ _) 1)
  generalize w1.drew = w2 at hT2 hC2 hHeld ⊢
  clear HT1 HC1
  refine pure_ (i := 0) (N := some 39) (v := ?_) (a' := ?_) #[true, false, false, false, false, false, false, false, false] rfl rfl (by kernel_rfl) (fun _ _ _ h => h) (Or.inl ⟨by rfl, ?_⟩) ?_ ?_
  rotate_left
  · intro w'
    go_simp
    with_reducible rfl
  rotate_left
  · simp only [Act.put, List.setIfInBounds_toArray, List.set_cons_zero, List.set_cons_succ]
    rfl
  refine pure_ (i := 2) (N := some 41) (v := ?_) (a' := ?_) #[true, false, true, false, false, false, false, false, false] rfl rfl (by kernel_rfl) (fun _ _ _ h => h) (Or.inl ⟨by rfl, ?_⟩) ?_ ?_
  rotate_left
  · intro w'
    go_simp
    with_reducible rfl
  rotate_left
  · simp only [Act.put, List.setIfInBounds_toArray, List.set_cons_zero, List.set_cons_succ]
    rfl
  refine pure_ (i := 4) (N := some 43) (v := ?_) (a' := ?_) #[true, false, true, false, true, false, false, false, false] rfl rfl (by kernel_rfl) (fun _ _ _ h => h) (Or.inl ⟨by rfl, ?_⟩) ?_ ?_
  rotate_left
  · intro w'
    go_simp
    with_reducible rfl
  rotate_left
  · simp only [Act.put, List.setIfInBounds_toArray, List.set_cons_zero, List.set_cons_succ]
    rfl
  refine take_ (i := 3) (N := some 42) (v := ?_) (a' := ?_) #[true, false, true, true, true, false, false, false, false] rfl rfl (by kernel_rfl) (fun _ _ _ h => h) (Or.inl ⟨by rfl, ?_⟩) hHeld ?_ ?_
  rotate_left
  · rintro w' ⟨⟨s0, s1, s2, s3, s4⟩, t0, t1, t2, t3, t4, t5, t6, t7⟩
    go_simp
    with_reducible rfl
  rotate_left
  · simp only [Act.put, List.setIfInBounds_toArray, List.set_cons_zero, List.set_cons_succ]
    rfl
  refine take_ (i := 5) (N := some 44) (v := ?_) (a' := ?_) #[true, false, true, true, true, true, false, false, false] rfl rfl (by kernel_rfl) (fun _ _ _ h => h) (Or.inl ⟨by rfl, ?_⟩) hHeld ?_ ?_
  rotate_left
  · rintro w' ⟨⟨s0, s1, s2, s3, s4⟩, t0, t1, t2, t3, t4, t5, t6, t7⟩
    go_simp
    with_reducible rfl
  rotate_left
  · simp only [Act.put, List.setIfInBounds_toArray, List.set_cons_zero, List.set_cons_succ]
    rfl
  refine one_ (i := 1) (N := some 40) #[true, true, true, true, true, true, false, false, false] rfl rfl (by kernel_rfl) (by decide) (fun K hK => ?_)
  refine goes_ Try.func57 (by kernel_rfl) rfl #[.slice A1 L.length d1] (by rfl) rfl rfl (by (try simp only [List.map_toArray, List.map_cons, List.map_nil]); first | done | rfl) ?_
  refine (acts_c A1 d1 L _ hC2 HLL.out).mono ?_
  rintro e w3 ⟨A3, d3, rfl, hd3, hC3, hb3⟩
  have hT3 := wi_below hT2 hb3
  have hC3' := Kd.C_below hC2 hb3
  refine ⟨_, rfl, ?_⟩
  refine hK.out _ _ (wi_cw hT3) (fun hHeld => ?_)
  clear hK K
  refine norm_ (a' := ?_) ?_ ?_
  rotate_left
  · show Act.put _ (some 40) _ = _
    simp only [Act.put, List.setIfInBounds_toArray, List.set_cons_zero, List.set_cons_succ]
    rfl
  refine one_ (i := 6) (N := some 45) #[true, true, true, true, true, true, true, false, false] rfl rfl (by kernel_rfl) (by decide) (fun K hK => ?_)
  refine goes_ Try.func58 (by kernel_rfl) rfl #[.int .u64 (s : Int), Cf c0 c1 c2 c3 c4, .int .i64 n, W8 a0 a1 a2 a3 a4 a5 a6 a7] (by rfl) rfl rfl (by (try simp only [List.map_toArray, List.map_cons, List.map_nil]); first | done | rfl) ?_
  refine (SR.out _).mono ?_
  rintro e w4 ⟨v4, rfl, hrow, hb4⟩
  obtain ⟨A4, d4, he4, hd4, hC4⟩ := row_reads hrow
  subst he4
  have hT4 := wi_below hT3 hb4
  have hC4' := Kd.C_below hC3' hb4
  have hC4'' := Kd.C_below hC3 hb4
  refine ⟨_, rfl, ?_⟩
  refine hK.out _ _ (wi_cw hT4) (fun hHeld => ?_)
  clear hK K
  refine norm_ (a' := ?_) ?_ ?_
  rotate_left
  · show Act.put _ (some 45) _ = _
    simp only [Act.put, List.setIfInBounds_toArray, List.set_cons_zero, List.set_cons_succ]
    rfl
  refine one_ (i := 7) (N := some 46) #[true, true, true, true, true, true, true, true, false] rfl rfl (by kernel_rfl) (by decide) (fun K hK => ?_)
  refine goes_ Try.func56 (by kernel_rfl) rfl #[.slice A3 L.length d3, .slice A4 L.length d4] (by rfl) rfl rfl (by (try simp only [List.map_toArray, List.map_cons, List.map_nil]); first | done | rfl) ?_
  refine (same38 A3 A4 d3 d4 L _ HLL.out hC4'' hC4).mono ?_
  rintro e w5 ⟨rfl, hb5⟩
  have hT5 := wi_below hT4 hb5
  have hC5 := Kd.C_below hC4' hb5
  refine ⟨_, rfl, ?_⟩
  refine hK.out _ _ (wi_cw hT5) (fun hHeld => ?_)
  clear hK K
  refine norm_ (a' := ?_) ?_ ?_
  rotate_left
  · show Act.put _ (some 46) _ = _
    simp only [Act.put, List.setIfInBounds_toArray, List.set_cons_zero, List.set_cons_succ]
    rfl
  refine pure_ (i := 8) (N := some 47) (v := ?_) (a' := ?_) #[true, true, true, true, true, true, true, true, true] rfl rfl (by kernel_rfl) (fun _ _ _ h => h) (Or.inl ⟨by rfl, ?_⟩) ?_ ?_
  rotate_left
  · intro w'
    go_simp
    with_reducible rfl
  rotate_left
  · simp only [Act.put, List.setIfInBounds_toArray, List.set_cons_zero, List.set_cons_succ]
    rfl
  refine done_ (by kernel_rfl) ?_
  clear hT2 hC2 hT3 hC3 hC3' hT4 hC4 hC4' hC4'' hHeld hd3 hd4 SR
  have HT5 := Lib.hid hT5
  have HC5 := Lib.hid hC5
  clear hT5 hC5
  by_cases hl0 : (L.length : Int) = 0
  · go_wp2_with (go_at_call 40; refine (LV.out _).mono ?_; rintro e w9 ⟨rfl, hb9⟩)
    go_ret
    exact ⟨rfl, bl_then (wi_bel HT5.out) hb9⟩
  obtain ⟨nn, hnn⟩ := Int.eq_ofNat_of_zero_le (show 0 ≤ n by omega)
  obtain ⟨mm, hmm⟩ := Int.eq_ofNat_of_zero_le (show 0 ≤ m by omega)
  subst hnn
  subst hmm
  have hne : scrG (nn : Int) c0 c1 c2 c3 c4 a0 a1 a2 a3 a4 a5 a6 a7 s ≠ [] := by
    rw [HL.out]
    intro h
    rw [h] at hl0
    exact hl0 rfl
  obtain ⟨hg, hz, hsc⟩ := scrG_some hne
  have hc := good_c0 hg
  rw [HL.out, Int.toNat_natCast] at hsc
  have hlen : L.length = nn := by rw [hsc, scL_len]
  have hok : ∀ a ∈ L, script_act.f a.kind a.who a.at_ a.mask a.r.kd a.r.off a.r.len a.r.data = some true := by
    intro a ha
    rw [hsc] at ha
    exact act_ok (scL_ok hc.1 hz nn (seedN s) a ha) hc.2
  have hs2 := scrG_all (n := (nn : Int) + (mm : Int)) s (by omega) (by omega) hg hz
  have SC2 := fun w => script_any s ((nn : Int) + (mm : Int)) c0 c1 c2 c3 c4 a0 a1 a2 a3 a4 a5 a6 a7 w HSS.out
  rw [hs2, show ((nn : Int) + (mm : Int)).toNat = nn + mm by omega] at SC2
  have hlen2 : (scL (actN c0 a0 a1 a2 a3 a4 a5 a6 a7) (nn + mm) (seedN s)).length = nn + mm := scL_len _ _ _
  have htk : (scL (actN c0 a0 a1 a2 a3 a4 a5 a6 a7) (nn + mm) (seedN s)).take nn = L := by rw [hsc]; exact scL_take _ _ _ _
  generalize scL (actN c0 a0 a1 a2 a3 a4 a5 a6 a7) (nn + mm) (seedN s) = L2 at SC2 hlen2 htk
  have SC2 := Lib.hid SC2
  have HLEN2 := Lib.hid hlen2
  have HTK := Lib.hid htk
  have HLEN := Lib.hid hlen
  have HOK := Lib.hid hok
  have HG := Lib.hid hg
  clear hne hg hz hsc hc hlen hok hs2 hlen2 htk HL
  obtain ⟨⟨f0, f1, f2, f3, f4⟩, g0, g1, g2, g3, g4, g5, g6, g7⟩ := wi_cw HT5.out
  have hl1 : ((L.length : Int) == 0) = false := by simpa using hl0
  have hl2 : ¬ L.length = 0 := by omega
  go_wp2_with fail
  refine (SC2.out _).mono ?_
  rintro e w6 ⟨v6, rfl, hrow, hb6⟩
  obtain ⟨A6, d6, he6, hd6, hC6⟩ := row_reads hrow
  rw [HLEN2.out] at he6 hd6 hC6
  subst he6
  have HT6 := Lib.hid (wi_below HT5.out hb6)
  have HC6 := Lib.hid (Kd.C_below HC5.out hb6)
  have hT6' := KA_take hC6 (Nat.le_add_right nn mm)
  rw [HTK.out] at hT6'
  have HK6 := Lib.hid hT6'
  have hq6 : nn ≤ d6 := by omega
  clear f0 f1 f2 f3 f4 g0 g1 g2 g3 g4 g5 g6 g7 hrow hb6 hC6 hT6'
  obtain ⟨⟨f0, f1, f2, f3, f4⟩, _⟩ := wi_cw HT6.out
  go_wp2_with (first
    | (go_at_call 59; refine (good59 c0 c1 c2 c3 c4 A1 d1 L _ HG.out HLL.out HC6.out HOK.out).mono ?_; rintro e w7 ⟨rfl, hb7⟩; have HC7 := Lib.hid (Kd.C_below HC6.out hb7); have HK7 := Lib.hid (Kd.C_below HK6.out hb7); have HB7 := Lib.hid (bl_then (wi_bel HT6.out) hb7); clear hb7)
    | (go_at_call 60; refine (same60_n A1 A6 d1 _ nn L _ HLEN.out HLL.out HC7.out HK7.out).mono ?_; rintro e w8 ⟨rfl, hb8⟩; have HB8 := Lib.hid (bl_then HB7.out hb8))
    | (go_at_call 40; refine (LV.out _).mono ?_; rintro e w9 ⟨rfl, hb9⟩))
  go_ret
  exact ⟨rfl, bl_then HB8.out hb9⟩
end Go.Proofs.Ytoobbolaoldacaa.DiceW
