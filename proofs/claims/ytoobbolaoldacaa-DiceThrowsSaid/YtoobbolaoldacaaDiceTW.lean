/-
  DiceThrows: its walk (printed by tools/mkdicet.py).
-/
import Derived.Test.YtoobbolaoldacaaDiceT2
import Derived.LoopTactic
namespace Go.Proofs.Ytoobbolaoldacaa.DiceW
open Go.RowKit Go.Proofs.Ytoobbolaoldacaa Go.Proofs.Ytoobbolaoldacaa.Dice Go.Proofs.Ytoobbolaoldacaa.DiceP Go.Proofs.Ytoobbolaoldacaa.RowOwn Go.Proofs.YtoobbolaoldacaaW.PrintWords Go.Proofs.YtoobbolaoldacaaW.PrintLast Go.Proofs.YtoobbolaoldacaaW.PrintMore
set_option linter.unusedVariables false
set_option maxRecDepth 20000 in
set_option maxHeartbeats 4000000 in
theorem throws_walk (A : Option Addr) (cap : Nat) (l : List Int) (hl63 : ∀ y ∈ l, y < 9223372036854775808) (s : Nat) (hs : s < 18446744073709551616) (c0 c1 c2 c3 c4 a0 a1 a2 a3 a4 a5 a6 a7 : Int) (w : World) (hr : Kd.C KI w A l.length l) :
    Calls Try.prog 9 #[Cf c0 c1 c2 c3 c4, .slice A l.length cap, .agg #[.int .u64 (s : Int), .int .i64 a0, .int .i64 a1, .int .i64 a2, .int .i64 a3, .int .i64 a4, .int .i64 a5, .int .i64 a6, .int .i64 a7]] w fun e w' => e = .returned (.bool true) ∧ Below w.heap.size w w' := by
  have NW := Lib.hid (fun w => new_walk s w hs)
  have RW := Lib.hid (fun w => rnew_walk s w hs)
  have HSD := Lib.hid (seed_live hs)
  have H63 := Lib.hid hl63
  have HR := Lib.hid hr
  have hq0 := old_at (new_at w (.cells #[.int .i64 c0, .int .i64 c1, .int .i64 c2, .int .i64 c3, .int .i64 c4] 92)) (.cells #[.int .u64 (s : Int), .int .i64 a0, .int .i64 a1, .int .i64 a2, .int .i64 a3, .int .i64 a4, .int .i64 a5, .int .i64 a6, .int .i64 a7] 95)
  have hi0 := new_at1 w (.cells #[.int .i64 c0, .int .i64 c1, .int .i64 c2, .int .i64 c3, .int .i64 c4] 92) (.cells #[.int .u64 (s : Int), .int .i64 a0, .int .i64 a1, .int .i64 a2, .int .i64 a3, .int .i64 a4, .int .i64 a5, .int .i64 a6, .int .i64 a7] 95)
  have hb0 : Below w.heap.size w ((w.alloc (.cells #[.int .i64 c0, .int .i64 c1, .int .i64 c2, .int .i64 c3, .int .i64 c4] 92)).alloc (.cells #[.int .u64 (s : Int), .int .i64 a0, .int .i64 a1, .int .i64 a2, .int .i64 a3, .int .i64 a4, .int .i64 a5, .int .i64 a6, .int .i64 a7] 95)) := bl_all (bl_all (Below.refl _ _) _) _
  have hsz : ((w.alloc (.cells #[.int .i64 c0, .int .i64 c1, .int .i64 c2, .int .i64 c3, .int .i64 c4] 92)).alloc (.cells #[.int .u64 (s : Int), .int .i64 a0, .int .i64 a1, .int .i64 a2, .int .i64 a3, .int .i64 a4, .int .i64 a5, .int .i64 a6, .int .i64 a7] 95)).heap.size = w.heap.size + 1 + 1 := by simp [World.size_alloc]
  clear hs hl63 hr
  go_enter Try.func9, Try.ntmps9
  go_upto_region 1 with (fail)
  generalize ((w.alloc (.cells #[.int .i64 c0, .int .i64 c1, .int .i64 c2, .int .i64 c3, .int .i64 c4] 92)).alloc (.cells #[.int .u64 (s : Int), .int .i64 a0, .int .i64 a1, .int .i64 a2, .int .i64 a3, .int .i64 a4, .int .i64 a5, .int .i64 a6, .int .i64 a7] 95)) = W0 at hq0 hi0 hb0 hsz ⊢
  generalize hq : w.heap.size = q at hq0 hi0 hsz ⊢
  have HQ := Lib.hid hq
  clear hq
  have HQ0 := Lib.hid hq0
  have HI0 := Lib.hid hi0
  have HB0 := Lib.hid hb0
  clear hq0 hb0
  have e0 := blk_cell hi0 0
  have e1 := blk_cell hi0 1
  have e2 := blk_cell hi0 2
  have e3 := blk_cell hi0 3
  have e4 := blk_cell hi0 4
  have e5 := blk_cell hi0 5
  have e6 := blk_cell hi0 6
  have e7 := blk_cell hi0 7
  have e8 := blk_cell hi0 8
  clear hi0
  refine start_ (n := 7) (S := fun w' => w'.cell? ⟨q + 1, 0, none⟩ = some (.int .u64 (s : Int)) ∧ w'.cell? ⟨q + 1, 1, none⟩ = some (.int .i64 a0) ∧ w'.cell? ⟨q + 1, 2, none⟩ = some (.int .i64 a1) ∧ w'.cell? ⟨q + 1, 3, none⟩ = some (.int .i64 a2) ∧ w'.cell? ⟨q + 1, 4, none⟩ = some (.int .i64 a3) ∧ w'.cell? ⟨q + 1, 5, none⟩ = some (.int .i64 a4) ∧ w'.cell? ⟨q + 1, 6, none⟩ = some (.int .i64 a5) ∧ w'.cell? ⟨q + 1, 7, none⟩ = some (.int .i64 a6) ∧ w'.cell? ⟨q + 1, 8, none⟩ = some (.int .i64 a7)) (ds := [6]) #[false, false, false, false, false, false, false] (by kernel_rfl) rfl rfl ⟨e0, e1, e2, e3, e4, e5, e6, e7, e8⟩ (fun hHeld => ?_)
  refine pure_ (i := 0) (N := some 15) (v := ?_) (a' := ?_) #[true, false, false, false, false, false, false] rfl rfl (by kernel_rfl) (fun _ _ _ h => h) (Or.inl ⟨by rfl, ?_⟩) ?_ ?_
  rotate_left
  · intro w'
    go_simp
    with_reducible rfl
  rotate_left
  · simp only [Act.put, List.setIfInBounds_toArray, List.set_cons_zero, List.set_cons_succ]
    rfl
  refine pure_ (i := 2) (N := some 17) (v := ?_) (a' := ?_) #[true, false, true, false, false, false, false] rfl rfl (by kernel_rfl) (fun _ _ _ h => h) (Or.inl ⟨by rfl, ?_⟩) ?_ ?_
  rotate_left
  · intro w'
    go_simp
    with_reducible rfl
  rotate_left
  · simp only [Act.put, List.setIfInBounds_toArray, List.set_cons_zero, List.set_cons_succ]
    rfl
  refine take_ (i := 1) (N := some 16) (v := ?_) (a' := ?_) #[true, true, true, false, false, false, false] rfl rfl (by kernel_rfl) (fun _ _ _ h => h) (Or.inl ⟨by rfl, ?_⟩) hHeld ?_ ?_
  rotate_left
  · rintro w' ⟨s0, s1, s2, s3, s4, s5, s6, s7, s8⟩
    go_simp
    with_reducible rfl
  rotate_left
  · simp only [Act.put, List.setIfInBounds_toArray, List.set_cons_zero, List.set_cons_succ]
    rfl
  refine take_ (i := 3) (N := some 18) (v := ?_) (a' := ?_) #[true, true, true, true, false, false, false] rfl rfl (by kernel_rfl) (fun _ _ _ h => h) (Or.inl ⟨by rfl, ?_⟩) hHeld ?_ ?_
  rotate_left
  · rintro w' ⟨s0, s1, s2, s3, s4, s5, s6, s7, s8⟩
    go_simp
    with_reducible rfl
  rotate_left
  · simp only [Act.put, List.setIfInBounds_toArray, List.set_cons_zero, List.set_cons_succ]
    rfl
  refine one_ (i := 4) (N := some 8) #[true, true, true, true, true, false, false] rfl rfl (by kernel_rfl) (by decide) (fun K hK => ?_)
  go_simp
  have hn : ((W0.alloc (.cells #[.int .i64 0, .int .i64 0, .int .i64 0, .int .i64 0, .int .i64 0, .int .i64 0, .int .i64 0, .int .i64 0] 93)).drew).heap[q + 1 + 1]? = some (.cells #[.int .i64 0, .int .i64 0, .int .i64 0, .int .i64 0, .int .i64 0, .int .i64 0, .int .i64 0, .int .i64 0] 93 (0, 0)) := by
    have h := new_at W0 (.cells #[.int .i64 0, .int .i64 0, .int .i64 0, .int .i64 0, .int .i64 0, .int .i64 0, .int .i64 0, .int .i64 0] 93)
    rw [hsz] at h
    exact h
  have hi1 : ((W0.alloc (.cells #[.int .i64 0, .int .i64 0, .int .i64 0, .int .i64 0, .int .i64 0, .int .i64 0, .int .i64 0, .int .i64 0] 93)).drew).heap[q + 1]? = some (.cells #[.int .u64 (s : Int), .int .i64 a0, .int .i64 a1, .int .i64 a2, .int .i64 a3, .int .i64 a4, .int .i64 a5, .int .i64 a6, .int .i64 a7] 95 (0, 0)) := old_at HI0.out _
  refine hK.out _ _ ⟨blk_cell hi1 0, blk_cell hi1 1, blk_cell hi1 2, blk_cell hi1 3, blk_cell hi1 4, blk_cell hi1 5, blk_cell hi1 6, blk_cell hi1 7, blk_cell hi1 8⟩ (fun hHeld => ?_)
  clear hK K
  refine pure_ (i := 5) (N := some 7) (v := ?_) (a' := ?_) #[true, true, true, true, true, true, false] rfl rfl (by kernel_rfl) (fun _ _ _ h => h) (Or.inl ⟨by rfl, ?_⟩) ?_ ?_
  rotate_left
  · intro w'
    go_simp
    with_reducible rfl
  rotate_left
  · simp only [Act.put, List.setIfInBounds_toArray, List.set_cons_zero, List.set_cons_succ]
    rfl
  obtain ⟨n0, n1, n2, n3, n4, n5, n6, n7⟩ := cl8 hn
  obtain ⟨m0, m1, m2, m3, m4, m5, m6, m7⟩ := fz8 hn
  refine last_ (i := 6) (N := none) #[true, true, true, true, true, true, true] rfl rfl (by kernel_rfl) (by decide) (fun K hK => ?_)
  go_simp
  refine hK.out _ _ ?_
  clear hK K
  refine done_ (by kernel_rfl) ?_
  have hq1 : ((W0.alloc (.cells #[.int .i64 a0, .int .i64 a1, .int .i64 a2, .int .i64 a3, .int .i64 a4, .int .i64 a5, .int .i64 a6, .int .i64 a7] 93)).drew).heap[q]? = some (.cells #[.int .i64 c0, .int .i64 c1, .int .i64 c2, .int .i64 c3, .int .i64 c4] 92 (0, 0)) := old_at HQ0.out _
  have hp1 : ((W0.alloc (.cells #[.int .i64 a0, .int .i64 a1, .int .i64 a2, .int .i64 a3, .int .i64 a4, .int .i64 a5, .int .i64 a6, .int .i64 a7] 93)).drew).heap[q + 1 + 1]? = some (.cells #[.int .i64 a0, .int .i64 a1, .int .i64 a2, .int .i64 a3, .int .i64 a4, .int .i64 a5, .int .i64 a6, .int .i64 a7] 93 (0, 0)) := by
    have h := new_at W0 (.cells #[.int .i64 a0, .int .i64 a1, .int .i64 a2, .int .i64 a3, .int .i64 a4, .int .i64 a5, .int .i64 a6, .int .i64 a7] 93)
    rw [hsz] at h
    exact h
  have hb1 : Below w.heap.size w ((W0.alloc (.cells #[.int .i64 a0, .int .i64 a1, .int .i64 a2, .int .i64 a3, .int .i64 a4, .int .i64 a5, .int .i64 a6, .int .i64 a7] 93)).drew) := bl_drew (bl_all HB0.out _) 1
  have hz1 := lt_at hp1
  generalize (W0.alloc (.cells #[.int .i64 a0, .int .i64 a1, .int .i64 a2, .int .i64 a3, .int .i64 a4, .int .i64 a5, .int .i64 a6, .int .i64 a7] 93)).drew = W1 at hq1 hp1 hb1 hz1 ⊢
  clear hi1 hn n0 n1 n2 n3 n4 n5 n6 n7 m0 m1 m2 m3 m4 m5 m6 m7 e0 e1 e2 e3 e4 e5 e6 e7 e8 hHeld
  have LV := Lib.hid lives41
  by_cases h60 : 60 < l.length
  · have h60' : (60 : Int) < (l.length : Int) := by omega
    go_wp2_with (go_at_call 40; refine (LV.out _).mono ?_; rintro e w' ⟨rfl, hb⟩)
    go_ret
    exact ⟨rfl, bl_then hb1 hb⟩
  have h60' : ¬ (60 : Int) < (l.length : Int) := by omega
  go_wp2_with (first
    | (go_at_call 41; refine (NW.out _).mono ?_; rintro e w2 ⟨rfl, rfl⟩)
    | (go_at_call 42; refine (RW.out _).mono ?_; rintro e w3 ⟨rfl, rfl⟩))
  have hT : TI w q (q + 1 + 1) W1.heap.size c0 c1 c2 c3 c4 a0 a1 a2 a3 a4 a5 a6 a7 (seedN s) (seedN s) ((W1.alloc (.cells #[.int .u64 (seedN s : Int)] 113)).alloc (.cells #[.int .u64 (seedN s : Int)] 149)) :=
    ⟨old_at (old_at hq1 _) _, old_at (old_at hp1 _) _, old_at (new_at _ _) _, new_at1 _ _ _, bl_all (bl_all hb1 _) _, by have := HQ.out; omega, by omega, hz1⟩
  generalize (W1.alloc (.cells #[.int .u64 (seedN s : Int)] 113)).alloc (.cells #[.int .u64 (seedN s : Int)] 149) = W3 at hT ⊢
  clear hq1 hp1 hb1 hz1 HQ0 HI0 HB0 hsz NW RW HQ
  generalize W1.heap.size = g at hT ⊢
  generalize seedN s = sd at hT HSD
  generalize q + 1 + 1 = p at hT ⊢
  have HT3 := Lib.hid hT
  clear hT
  go_loopw [29] (fun iv wr => ∃ (k y : Nat), k ≤ l.length ∧ iv = .int .i64 (k : Int) ∧ Hid (Live y) ∧ Hid (TI w q p g c0 c1 c2 c3 c4 a0 a1 a2 a3 a4 a5 a6 a7 y y wr)) (fun i _ => l.length - (intOf i).toNat)
  case atStart => exact ⟨0, sd, Nat.zero_le _, rfl, HSD, HT3⟩
  case round =>
    obtain ⟨k, y, hk, rfl, hly, hti⟩ := hrel
    clear HT3 HSD
    by_cases hlt : k < l.length
    rotate_left
    · have hlt' : ¬ (k : Int) < (l.length : Int) := by omega
      go_wp2_with (go_at_call 40; refine (LV.out _).mono ?_; rintro e w' ⟨rfl, hb⟩)
      go_ret
      exact ⟨rfl, bl_then (ti_bel hti.out) hb⟩
    have hlt' : (k : Int) < (l.length : Int) := by omega
    have hC := Kd.C_below HR.out (ti_bel hti.out)
    obtain ⟨ad, hAd, hcell⟩ := at_KI hC k hlt
    subst hAd
    have hn63 := H63.out _ (List.getElem_mem hlt)
    generalize l[k] = n at hcell hn63
    have BL := Lib.hid (fun W (hW : DAt 113 W g y) => below_yes g y n W hly.out hn63 hW)
    have BR := Lib.hid (fun W (hW : DAt 149 W (g + 1) y) => rbelow (g + 1) y n W hly.out hn63 hW)
    have hy1 : Live (lessS n y) := lessS_live hly.out
    generalize lessN n y = t at BL BR
    generalize lessS n y = y1 at BL BR hy1
    have NX := Lib.hid (fun W (hW : DAt 113 W g y1) => next_yes g y1 W hy1 hW)
    have NR := Lib.hid (fun W (hW : DAt 149 W (g + 1) y1) => rnext (g + 1) y1 W hy1 hW)
    have hy2 := step_live hy1
    generalize (outN y1 : Int) = ov at NX NR
    generalize stepN y1 = y2 at NX NR hy2
    have RQ := Lib.hid (fun W (hW : DAt 113 W g y2) => request_any g y2 c0 c1 c2 c3 c4 W hy2 hW)
    have RR := Lib.hid (fun W (hW : DAt 149 W (g + 1) y2) => rrequest_any (g + 1) y2 c0 c1 c2 c3 c4 W hy2 hW)
    have hy3 := reqG_live (c0 := c0) (c1 := c1) (c2 := c2) (c3 := c3) (c4 := c4) hy2
    generalize reqG c0 c1 c2 c3 c4 y2 = r at RQ RR hy3
    have AC := Lib.hid (fun W (hW : DAt 113 W g r.2) => act_any g r.2 c0 c1 c2 c3 c4 a0 a1 a2 a3 a4 a5 a6 a7 W hy3 hW)
    have AR := Lib.hid (fun W (hW : DAt 149 W (g + 1) r.2) => ract_any (g + 1) r.2 c0 c1 c2 c3 c4 a0 a1 a2 a3 a4 a5 a6 a7 W hy3 hW)
    have hy4 := actG_live (c0 := c0) (c1 := c1) (c2 := c2) (c3 := c3) (c4 := c4) (a0 := a0) (a1 := a1) (a2 := a2) (a3 := a3) (a4 := a4) (a5 := a5) (a6 := a6) (a7 := a7) hy3
    generalize actG c0 c1 c2 c3 c4 a0 a1 a2 a3 a4 a5 a6 a7 r.2 = ac at AC AR hy4
    clear hy1 hy2 hy3 hC hn63
    go_upto_region 8 with (fail)
    refine start_ (n := 24) (S := fun w' => w'.cell? ⟨q, 0, none⟩ = some (.int .i64 c0) ∧ w'.cell? ⟨q, 1, none⟩ = some (.int .i64 c1) ∧ w'.cell? ⟨q, 2, none⟩ = some (.int .i64 c2) ∧ w'.cell? ⟨q, 3, none⟩ = some (.int .i64 c3) ∧ w'.cell? ⟨q, 4, none⟩ = some (.int .i64 c4)) (ds := []) #[false, false, false, false, false, false, false, false, false, false, false, false, false, false, false, false, false, false, false, false, false, false, false, false] (by kernel_rfl) rfl rfl (ti_c (ti_drew hti.out)) (fun hHeld => ?_)
    have hA0 := ti_drew hti.out
    generalize wr.drew = w0 at hA0 hHeld ⊢
    refine pure_ (i := 0) (N := some 33) (v := ?_) (a' := ?_) #[true, false, false, false, false, false, false, false, false, false, false, false, false, false, false, false, false, false, false, false, false, false, false, false] rfl rfl (by kernel_rfl) (fun _ _ _ h => h) (Or.inl ⟨by rfl, ?_⟩) ?_ ?_
    rotate_left
    · intro w'
      go_simp
      with_reducible rfl
    rotate_left
    · simp only [Act.put, List.setIfInBounds_toArray, List.set_cons_zero, List.set_cons_succ]
      rfl
    refine pure_ (i := 1) (N := some 34) (v := ?_) (a' := ?_) #[true, true, false, false, false, false, false, false, false, false, false, false, false, false, false, false, false, false, false, false, false, false, false, false] rfl rfl (by kernel_rfl) (fun _ _ _ h => h) (Or.inl ⟨by rfl, ?_⟩) ?_ ?_
    rotate_left
    · intro w'
      go_simp
      with_reducible rfl
    rotate_left
    · simp only [Act.put, List.setIfInBounds_toArray, List.set_cons_zero, List.set_cons_succ]
      rfl
    refine pure_ (i := 3) (N := some 36) (v := ?_) (a' := ?_) #[true, true, false, true, false, false, false, false, false, false, false, false, false, false, false, false, false, false, false, false, false, false, false, false] rfl rfl (by kernel_rfl) (fun _ _ _ h => h) (Or.inl ⟨by rfl, ?_⟩) ?_ ?_
    rotate_left
    · intro w'
      go_simp
      with_reducible rfl
    rotate_left
    · simp only [Act.put, List.setIfInBounds_toArray, List.set_cons_zero, List.set_cons_succ]
      rfl
    refine pure_ (i := 4) (N := some 37) (v := ?_) (a' := ?_) #[true, true, false, true, true, false, false, false, false, false, false, false, false, false, false, false, false, false, false, false, false, false, false, false] rfl rfl (by kernel_rfl) (fun _ _ _ h => h) (Or.inl ⟨by rfl, ?_⟩) ?_ ?_
    rotate_left
    · intro w'
      go_simp
      with_reducible rfl
    rotate_left
    · simp only [Act.put, List.setIfInBounds_toArray, List.set_cons_zero, List.set_cons_succ]
      rfl
    refine one_ (i := 2) (N := some 35) #[true, true, true, true, true, false, false, false, false, false, false, false, false, false, false, false, false, false, false, false, false, false, false, false] rfl rfl (by kernel_rfl) (by decide) (fun K hK => ?_)
    refine goes_ Try.func43 (by kernel_rfl) rfl #[.pointer (some ⟨g, 0, none⟩), .int .i64 n] (by rfl) rfl rfl (by (try simp only [List.map_toArray, List.map_cons, List.map_nil]); first | done | rfl) ?_
    refine (BL.out _ (ti_dp hA0)).mono ?_
    rintro e w1 ⟨rfl, hd, ho⟩
    have hA1 := ti_prog hA0 hd ho
    clear hd ho
    refine ⟨_, rfl, ?_⟩
    refine hK.out _ _ (ti_c hA1) (fun hHeld => ?_)
    clear hK K
    refine norm_ (a' := ?_) ?_ ?_
    rotate_left
    · show Act.put _ (some 35) _ = _
      simp only [Act.put, List.setIfInBounds_toArray, List.set_cons_zero, List.set_cons_succ]
      rfl
    refine one_ (i := 5) (N := some 38) #[true, true, true, true, true, true, false, false, false, false, false, false, false, false, false, false, false, false, false, false, false, false, false, false] rfl rfl (by kernel_rfl) (by decide) (fun K hK => ?_)
    refine goes_ Try.func44 (by kernel_rfl) rfl #[.pointer (some ⟨g + 1, 0, none⟩), .int .i64 n] (by rfl) rfl rfl (by (try simp only [List.map_toArray, List.map_cons, List.map_nil]); first | done | rfl) ?_
    refine (BR.out _ (ti_dr hA1)).mono ?_
    rintro e w2 ⟨rfl, hd, ho⟩
    have hA2 := ti_ref hA1 hd ho
    clear hd ho
    refine ⟨_, rfl, ?_⟩
    refine hK.out _ _ (ti_c hA2) (fun hHeld => ?_)
    clear hK K
    refine norm_ (a' := ?_) ?_ ?_
    rotate_left
    · show Act.put _ (some 38) _ = _
      simp only [Act.put, List.setIfInBounds_toArray, List.set_cons_zero, List.set_cons_succ]
      rfl
    refine pure_ (i := 6) (N := some 39) (v := ?_) (a' := ?_) #[true, true, true, true, true, true, true, false, false, false, false, false, false, false, false, false, false, false, false, false, false, false, false, false] rfl rfl (by kernel_rfl) (fun _ _ _ h => h) (Or.inl ⟨by rfl, ?_⟩) ?_ ?_
    rotate_left
    · intro w'
      go_simp
      with_reducible rfl
    rotate_left
    · simp only [Act.put, List.setIfInBounds_toArray, List.set_cons_zero, List.set_cons_succ]
      rfl
    refine pure_ (i := 7) (N := some 40) (v := ?_) (a' := ?_) #[true, true, true, true, true, true, true, true, false, false, false, false, false, false, false, false, false, false, false, false, false, false, false, false] rfl rfl (by kernel_rfl) (fun _ _ _ h => h) (Or.inl ⟨by rfl, ?_⟩) ?_ ?_
    rotate_left
    · intro w'
      go_simp
      with_reducible rfl
    rotate_left
    · simp only [Act.put, List.setIfInBounds_toArray, List.set_cons_zero, List.set_cons_succ]
      rfl
    refine pure_ (i := 8) (N := some 41) (v := ?_) (a' := ?_) #[true, true, true, true, true, true, true, true, true, false, false, false, false, false, false, false, false, false, false, false, false, false, false, false] rfl rfl (by kernel_rfl) (fun _ _ _ h => h) (Or.inl ⟨by rfl, ?_⟩) ?_ ?_
    rotate_left
    · intro w'
      go_simp
      with_reducible rfl
    rotate_left
    · simp only [Act.put, List.setIfInBounds_toArray, List.set_cons_zero, List.set_cons_succ]
      rfl
    refine pure_ (i := 10) (N := some 43) (v := ?_) (a' := ?_) #[true, true, true, true, true, true, true, true, true, false, true, false, false, false, false, false, false, false, false, false, false, false, false, false] rfl rfl (by kernel_rfl) (fun _ _ _ h => h) (Or.inl ⟨by rfl, ?_⟩) ?_ ?_
    rotate_left
    · intro w'
      go_simp
      with_reducible rfl
    rotate_left
    · simp only [Act.put, List.setIfInBounds_toArray, List.set_cons_zero, List.set_cons_succ]
      rfl
    refine one_ (i := 9) (N := some 42) #[true, true, true, true, true, true, true, true, true, true, true, false, false, false, false, false, false, false, false, false, false, false, false, false] rfl rfl (by kernel_rfl) (by decide) (fun K hK => ?_)
    refine goes_ Try.func45 (by kernel_rfl) rfl #[.pointer (some ⟨g, 0, none⟩)] (by rfl) rfl rfl (by (try simp only [List.map_toArray, List.map_cons, List.map_nil]); first | done | rfl) ?_
    refine (NX.out _ (ti_dp hA2)).mono ?_
    rintro e w3 ⟨rfl, hd, ho⟩
    have hA3 := ti_prog hA2 hd ho
    clear hd ho
    refine ⟨_, rfl, ?_⟩
    refine hK.out _ _ (ti_c hA3) (fun hHeld => ?_)
    clear hK K
    refine norm_ (a' := ?_) ?_ ?_
    rotate_left
    · show Act.put _ (some 42) _ = _
      simp only [Act.put, List.setIfInBounds_toArray, List.set_cons_zero, List.set_cons_succ]
      rfl
    refine one_ (i := 11) (N := some 44) #[true, true, true, true, true, true, true, true, true, true, true, true, false, false, false, false, false, false, false, false, false, false, false, false] rfl rfl (by kernel_rfl) (by decide) (fun K hK => ?_)
    refine goes_ Try.func46 (by kernel_rfl) rfl #[.pointer (some ⟨g + 1, 0, none⟩)] (by rfl) rfl rfl (by (try simp only [List.map_toArray, List.map_cons, List.map_nil]); first | done | rfl) ?_
    refine (NR.out _ (ti_dr hA3)).mono ?_
    rintro e w4 ⟨rfl, hd, ho⟩
    have hA4 := ti_ref hA3 hd ho
    clear hd ho
    refine ⟨_, rfl, ?_⟩
    refine hK.out _ _ (ti_c hA4) (fun hHeld => ?_)
    clear hK K
    refine norm_ (a' := ?_) ?_ ?_
    rotate_left
    · show Act.put _ (some 44) _ = _
      simp only [Act.put, List.setIfInBounds_toArray, List.set_cons_zero, List.set_cons_succ]
      rfl
    refine pure_ (i := 12) (N := some 45) (v := ?_) (a' := ?_) #[true, true, true, true, true, true, true, true, true, true, true, true, true, false, false, false, false, false, false, false, false, false, false, false] rfl rfl (by kernel_rfl) (fun _ _ _ h => h) (Or.inl ⟨by rfl, ?_⟩) ?_ ?_
    rotate_left
    · intro w'
      go_simp
      with_reducible rfl
    rotate_left
    · simp only [Act.put, List.setIfInBounds_toArray, List.set_cons_zero, List.set_cons_succ]
      rfl
    refine pure_ (i := 13) (N := some 46) (v := ?_) (a' := ?_) #[true, true, true, true, true, true, true, true, true, true, true, true, true, true, false, false, false, false, false, false, false, false, false, false] rfl rfl (by kernel_rfl) (fun _ _ _ h => h) (Or.inl ⟨by rfl, ?_⟩) ?_ ?_
    rotate_left
    · intro w'
      go_simp
      with_reducible rfl
    rotate_left
    · simp only [Act.put, List.setIfInBounds_toArray, List.set_cons_zero, List.set_cons_succ]
      rfl
    refine pure_ (i := 14) (N := some 47) (v := ?_) (a' := ?_) #[true, true, true, true, true, true, true, true, true, true, true, true, true, true, true, false, false, false, false, false, false, false, false, false] rfl rfl (by kernel_rfl) (fun _ _ _ h => h) (Or.inl ⟨by rfl, ?_⟩) ?_ ?_
    rotate_left
    · intro w'
      go_simp
      with_reducible rfl
    rotate_left
    · simp only [Act.put, List.setIfInBounds_toArray, List.set_cons_zero, List.set_cons_succ]
      rfl
    refine pure_ (i := 15) (N := some 48) (v := ?_) (a' := ?_) #[true, true, true, true, true, true, true, true, true, true, true, true, true, true, true, true, false, false, false, false, false, false, false, false] rfl rfl (by kernel_rfl) (fun _ _ _ h => h) (Or.inl ⟨by rfl, ?_⟩) ?_ ?_
    rotate_left
    · intro w'
      go_simp
      with_reducible rfl
    rotate_left
    · simp only [Act.put, List.setIfInBounds_toArray, List.set_cons_zero, List.set_cons_succ]
      rfl
    refine pure_ (i := 18) (N := some 51) (v := ?_) (a' := ?_) #[true, true, true, true, true, true, true, true, true, true, true, true, true, true, true, true, false, false, true, false, false, false, false, false] rfl rfl (by kernel_rfl) (fun _ _ _ h => h) (Or.inl ⟨by rfl, ?_⟩) ?_ ?_
    rotate_left
    · intro w'
      go_simp
      with_reducible rfl
    rotate_left
    · simp only [Act.put, List.setIfInBounds_toArray, List.set_cons_zero, List.set_cons_succ]
      rfl
    refine take_ (i := 16) (N := some 49) (v := ?_) (a' := ?_) #[true, true, true, true, true, true, true, true, true, true, true, true, true, true, true, true, true, false, true, false, false, false, false, false] rfl rfl (by kernel_rfl) (fun _ _ _ h => h) (Or.inl ⟨by rfl, ?_⟩) hHeld ?_ ?_
    rotate_left
    · rintro w' ⟨s0, s1, s2, s3, s4⟩
      go_simp
      with_reducible rfl
    rotate_left
    · simp only [Act.put, List.setIfInBounds_toArray, List.set_cons_zero, List.set_cons_succ]
      rfl
    refine take_ (i := 19) (N := some 52) (v := ?_) (a' := ?_) #[true, true, true, true, true, true, true, true, true, true, true, true, true, true, true, true, true, false, true, true, false, false, false, false] rfl rfl (by kernel_rfl) (fun _ _ _ h => h) (Or.inl ⟨by rfl, ?_⟩) hHeld ?_ ?_
    rotate_left
    · rintro w' ⟨s0, s1, s2, s3, s4⟩
      go_simp
      with_reducible rfl
    rotate_left
    · simp only [Act.put, List.setIfInBounds_toArray, List.set_cons_zero, List.set_cons_succ]
      rfl
    refine one_ (i := 17) (N := some 50) #[true, true, true, true, true, true, true, true, true, true, true, true, true, true, true, true, true, true, true, true, false, false, false, false] rfl rfl (by kernel_rfl) (by decide) (fun K hK => ?_)
    refine goes_ Try.func48 (by kernel_rfl) rfl #[.pointer (some ⟨g, 0, none⟩), Cf c0 c1 c2 c3 c4] (by rfl) rfl rfl (by (try simp only [List.map_toArray, List.map_cons, List.map_nil]); first | done | rfl) ?_
    refine (RQ.out _ (ti_dp hA4)).mono ?_
    rintro e w5 ⟨v5, rfl, hr, hd, ho⟩
    obtain ⟨A5, d5, rfl⟩ := Kd.R_slice hr
    have hA5 := ti_prog hA4 hd ho
    have hr5 := rd_mk hr ho.size
    clear hd ho hr
    refine ⟨_, rfl, ?_⟩
    refine hK.out _ _ (ti_c hA5) (fun hHeld => ?_)
    clear hK K
    refine norm_ (a' := ?_) ?_ ?_
    rotate_left
    · show Act.put _ (some 50) _ = _
      simp only [Act.put, List.setIfInBounds_toArray, List.set_cons_zero, List.set_cons_succ]
      rfl
    refine one_ (i := 20) (N := some 53) #[true, true, true, true, true, true, true, true, true, true, true, true, true, true, true, true, true, true, true, true, true, false, false, false] rfl rfl (by kernel_rfl) (by decide) (fun K hK => ?_)
    refine goes_ Try.func49 (by kernel_rfl) rfl #[.pointer (some ⟨g + 1, 0, none⟩), Cf c0 c1 c2 c3 c4] (by rfl) rfl rfl (by (try simp only [List.map_toArray, List.map_cons, List.map_nil]); first | done | rfl) ?_
    refine (RR.out _ (ti_dr hA5)).mono ?_
    rintro e w6 ⟨v6, rfl, hr, hd, ho⟩
    obtain ⟨A6, d6, rfl⟩ := Kd.R_slice hr
    have hA6 := ti_ref hA5 hd ho
    have hr6 := rd_mk hr ho.size
    have hr5' := rd_only hr5 ho (fun k h1 h2 he => by have := ti_lt hA4; omega)
    clear hd ho hr
    refine ⟨_, rfl, ?_⟩
    refine hK.out _ _ (ti_c hA6) (fun hHeld => ?_)
    clear hK K
    refine norm_ (a' := ?_) ?_ ?_
    rotate_left
    · show Act.put _ (some 53) _ = _
      simp only [Act.put, List.setIfInBounds_toArray, List.set_cons_zero, List.set_cons_succ]
      rfl
    obtain ⟨_, _, he5, hc5, hC5⟩ := rd_reads hr5'
    injection he5 with q1 q2 q3
    subst q1
    subst q3
    clear q2
    obtain ⟨_, _, he6, hc6, hC6⟩ := rd_reads hr6
    injection he6 with q1 q2 q3
    subst q1
    subst q3
    clear q2
    refine one_ (i := 21) (N := some 54) #[true, true, true, true, true, true, true, true, true, true, true, true, true, true, true, true, true, true, true, true, true, true, false, false] rfl rfl (by kernel_rfl) (by decide) (fun K hK => ?_)
    refine goes_ Try.func47 (by kernel_rfl) rfl #[.agg #[.int .i64 r.1.kd, .int .i64 r.1.off, .int .i64 r.1.len, .slice A5 r.1.data.length d5], .agg #[.int .i64 r.1.kd, .int .i64 r.1.off, .int .i64 r.1.len, .slice A6 r.1.data.length d6]] (by rfl) rfl rfl (by (try simp only [List.map_toArray, List.map_cons, List.map_nil]); first | done | rfl) ?_
    refine (same_rq r.1 A5 A6 d5 d6 _ hC5 hc5 hC6 hc6).mono ?_
    rintro e w7 ⟨rfl, hb⟩
    have hA7 := ti_below hA6 hb
    clear hb
    refine ⟨_, rfl, ?_⟩
    refine hK.out _ _ (ti_c hA7) (fun hHeld => ?_)
    clear hK K
    refine norm_ (a' := ?_) ?_ ?_
    rotate_left
    · show Act.put _ (some 54) _ = _
      simp only [Act.put, List.setIfInBounds_toArray, List.set_cons_zero, List.set_cons_succ]
      rfl
    refine pure_ (i := 22) (N := some 55) (v := ?_) (a' := ?_) #[true, true, true, true, true, true, true, true, true, true, true, true, true, true, true, true, true, true, true, true, true, true, true, false] rfl rfl (by kernel_rfl) (fun _ _ _ h => h) (Or.inl ⟨by rfl, ?_⟩) ?_ ?_
    rotate_left
    · intro w'
      go_simp
      with_reducible rfl
    rotate_left
    · simp only [Act.put, List.setIfInBounds_toArray, List.set_cons_zero, List.set_cons_succ]
      rfl
    refine pure_ (i := 23) (N := some 56) (v := ?_) (a' := ?_) #[true, true, true, true, true, true, true, true, true, true, true, true, true, true, true, true, true, true, true, true, true, true, true, true] rfl rfl (by kernel_rfl) (fun _ _ _ h => h) (Or.inl ⟨by rfl, ?_⟩) ?_ ?_
    rotate_left
    · intro w'
      go_simp
      with_reducible rfl
    rotate_left
    · simp only [Act.put, List.setIfInBounds_toArray, List.set_cons_zero, List.set_cons_succ]
      rfl
    refine done_ (by kernel_rfl) ?_
    clear hA0 hA1 hA2 hA3 hA4 hA5 hA6 hr5 hr5' hr6 hC5 hC6 hc5 hc6 BL BR NX NR RQ RR hHeld hti hcell
    go_upto_region 10 with (fail)
    go_cut [13, 14] (fun v13 v14 wc => ∃ b b' : Nat, v13 = .pointer (some ⟨b, 0, none⟩) ∧ v14 = .pointer (some ⟨b', 0, none⟩) ∧ Hid (TwoA b b' ac.1 wc) ∧ Hid (TI w q p g c0 c1 c2 c3 c4 a0 a1 a2 a3 a4 a5 a6 a7 ac.2 ac.2 wc))
    case first =>
      have hB0 := ti_drew hA7
      refine start_ (n := 12) (S := fun w' => (w'.cell? ⟨q, 0, none⟩ = some (.int .i64 c0) ∧ w'.cell? ⟨q, 1, none⟩ = some (.int .i64 c1) ∧ w'.cell? ⟨q, 2, none⟩ = some (.int .i64 c2) ∧ w'.cell? ⟨q, 3, none⟩ = some (.int .i64 c3) ∧ w'.cell? ⟨q, 4, none⟩ = some (.int .i64 c4)) ∧ (w'.cell? ⟨p, 0, none⟩ = some (.int .i64 a0) ∧ w'.cell? ⟨p, 1, none⟩ = some (.int .i64 a1) ∧ w'.cell? ⟨p, 2, none⟩ = some (.int .i64 a2) ∧ w'.cell? ⟨p, 3, none⟩ = some (.int .i64 a3) ∧ w'.cell? ⟨p, 4, none⟩ = some (.int .i64 a4) ∧ w'.cell? ⟨p, 5, none⟩ = some (.int .i64 a5) ∧ w'.cell? ⟨p, 6, none⟩ = some (.int .i64 a6) ∧ w'.cell? ⟨p, 7, none⟩ = some (.int .i64 a7))) (ds := [10, 11]) #[false, false, false, false, false, false, false, false, false, false, false, false] (by kernel_rfl) rfl rfl (ti_cw (ti_drew hA7)) (fun hHeld => ?_)
      generalize w7.drew = v0 at hB0 hHeld ⊢
      clear hA7
      refine pure_ (i := 0) (N := some 57) (v := ?_) (a' := ?_) #[true, false, false, false, false, false, false, false, false, false, false, false] rfl rfl (by kernel_rfl) (fun _ _ _ h => h) (Or.inl ⟨by rfl, ?_⟩) ?_ ?_
      rotate_left
      · intro w'
        go_simp
        with_reducible rfl
      rotate_left
      · simp only [Act.put, List.setIfInBounds_toArray, List.set_cons_zero, List.set_cons_succ]
        rfl
      refine pure_ (i := 4) (N := some 61) (v := ?_) (a' := ?_) #[true, false, false, false, true, false, false, false, false, false, false, false] rfl rfl (by kernel_rfl) (fun _ _ _ h => h) (Or.inl ⟨by rfl, ?_⟩) ?_ ?_
      rotate_left
      · intro w'
        go_simp
        with_reducible rfl
      rotate_left
      · simp only [Act.put, List.setIfInBounds_toArray, List.set_cons_zero, List.set_cons_succ]
        rfl
      refine take_ (i := 1) (N := some 58) (v := ?_) (a' := ?_) #[true, true, false, false, true, false, false, false, false, false, false, false] rfl rfl (by kernel_rfl) (fun _ _ _ h => h) (Or.inl ⟨by rfl, ?_⟩) hHeld ?_ ?_
      rotate_left
      · rintro w' ⟨⟨s0, s1, s2, s3, s4⟩, t0, t1, t2, t3, t4, t5, t6, t7⟩
        go_simp
        with_reducible rfl
      rotate_left
      · simp only [Act.put, List.setIfInBounds_toArray, List.set_cons_zero, List.set_cons_succ]
        rfl
      refine take_ (i := 2) (N := some 59) (v := ?_) (a' := ?_) #[true, true, true, false, true, false, false, false, false, false, false, false] rfl rfl (by kernel_rfl) (fun _ _ _ h => h) (Or.inl ⟨by rfl, ?_⟩) hHeld ?_ ?_
      rotate_left
      · rintro w' ⟨⟨s0, s1, s2, s3, s4⟩, t0, t1, t2, t3, t4, t5, t6, t7⟩
        go_simp
        with_reducible rfl
      rotate_left
      · simp only [Act.put, List.setIfInBounds_toArray, List.set_cons_zero, List.set_cons_succ]
        rfl
      refine take_ (i := 5) (N := some 62) (v := ?_) (a' := ?_) #[true, true, true, false, true, true, false, false, false, false, false, false] rfl rfl (by kernel_rfl) (fun _ _ _ h => h) (Or.inl ⟨by rfl, ?_⟩) hHeld ?_ ?_
      rotate_left
      · rintro w' ⟨⟨s0, s1, s2, s3, s4⟩, t0, t1, t2, t3, t4, t5, t6, t7⟩
        go_simp
        with_reducible rfl
      rotate_left
      · simp only [Act.put, List.setIfInBounds_toArray, List.set_cons_zero, List.set_cons_succ]
        rfl
      refine take_ (i := 6) (N := some 63) (v := ?_) (a' := ?_) #[true, true, true, false, true, true, true, false, false, false, false, false] rfl rfl (by kernel_rfl) (fun _ _ _ h => h) (Or.inl ⟨by rfl, ?_⟩) hHeld ?_ ?_
      rotate_left
      · rintro w' ⟨⟨s0, s1, s2, s3, s4⟩, t0, t1, t2, t3, t4, t5, t6, t7⟩
        go_simp
        with_reducible rfl
      rotate_left
      · simp only [Act.put, List.setIfInBounds_toArray, List.set_cons_zero, List.set_cons_succ]
        rfl
      refine three_ (i := 3) (j := 8) (k := 9) (Ni := some 60) (Nj := some 13) (Nk := some 14) #[true, true, true, true, true, true, true, false, false, false, false, false] #[true, true, true, false, true, true, true, false, true, false, false, false] #[true, true, true, false, true, true, true, false, false, true, false, false] rfl rfl rfl rfl rfl rfl (by kernel_rfl) (by decide) (by decide) (by decide) (fun K hK => ?_) (fun K hK => ?_) (fun K hK => ?_)
      · refine goes_ Try.func50 (by kernel_rfl) rfl #[.pointer (some ⟨g + 1, 0, none⟩), Cf c0 c1 c2 c3 c4, W8 a0 a1 a2 a3 a4 a5 a6 a7] (by rfl) rfl rfl (by (try simp only [List.map_toArray, List.map_cons, List.map_nil]); first | done | rfl) ?_
        refine (AR.out _ (ti_dr hB0)).mono ?_
        rintro e v1 ⟨u1, rfl, hr, hd, ho⟩
        obtain ⟨A1_, d1_, rfl⟩ := Kd.R_slice hr
        have hB1 := ti_ref hB0 hd ho
        have hz1 := ho.size
        have hl1 := ti_lt hB0
        have r13_1 := rd_mk hr ho.size
        clear hr hd ho
        refine ⟨_, rfl, ?_⟩
        refine hK.out _ _ (ti_cw hB1) (fun hHeld => ?_)
        clear hK K
        refine norm_ (a' := ?_) ?_ ?_
        rotate_left
        · show Act.put _ (some 60) _ = _
          simp only [Act.put, List.setIfInBounds_toArray, List.set_cons_zero, List.set_cons_succ]
          rfl
        refine three_ (i := 7) (j := 8) (k := 9) (Ni := some 64) (Nj := some 13) (Nk := some 14) #[true, true, true, true, true, true, true, true, false, false, false, false] #[true, true, true, true, true, true, true, false, true, false, false, false] #[true, true, true, true, true, true, true, false, false, true, false, false] rfl rfl rfl rfl rfl rfl (by kernel_rfl) (by decide) (by decide) (by decide) (fun K hK => ?_) (fun K hK => ?_) (fun K hK => ?_)
        · refine goes_ Try.func51 (by kernel_rfl) rfl #[.pointer (some ⟨g, 0, none⟩), Cf c0 c1 c2 c3 c4, W8 a0 a1 a2 a3 a4 a5 a6 a7] (by rfl) rfl rfl (by (try simp only [List.map_toArray, List.map_cons, List.map_nil]); first | done | rfl) ?_
          refine (AC.out _ (ti_dp hB1)).mono ?_
          rintro e v2 ⟨u2, rfl, hr, hd, ho⟩
          obtain ⟨A2_, d2_, rfl⟩ := Kd.R_slice hr
          have hB2 := ti_prog hB1 hd ho
          have hz2 := ho.size
          have hl2 := ti_lt hB1
          have r13_2 := rd_only r13_1 ho (fun k h1 h2 he => by omega)
          have r14_2 := rd_mk hr ho.size
          clear hr hd ho
          refine ⟨_, rfl, ?_⟩
          refine hK.out _ _ (ti_cw hB2) (fun hHeld => ?_)
          clear hK K
          refine norm_ (a' := ?_) ?_ ?_
          rotate_left
          · show Act.put _ (some 64) _ = _
            simp only [Act.put, List.setIfInBounds_toArray, List.set_cons_zero, List.set_cons_succ]
            rfl
          refine two_ (i := 8) (j := 9) (Ni := some 13) (Nj := some 14) #[true, true, true, true, true, true, true, true, true, false, false, false] #[true, true, true, true, true, true, true, true, false, true, false, false] rfl rfl rfl rfl (by kernel_rfl) (by decide) (by decide) (fun K hK => ?_) (fun K hK => ?_)
          · go_simp
            have hB3 := ti_alloc hB2 (.cells #[.int .i64 0, .int .i64 0, .int .i64 0, .int .u64 0, .int .i64 0, .int .i64 0, .int .i64 0, .slice none 0 0] 106)
            have h8_3 := new_at v2 (.cells #[.int .i64 0, .int .i64 0, .int .i64 0, .int .u64 0, .int .i64 0, .int .i64 0, .int .i64 0, .slice none 0 0] 106)
            have hz3 := Nat.le_of_eq (World.size_alloc v2 (.cells #[.int .i64 0, .int .i64 0, .int .i64 0, .int .u64 0, .int .i64 0, .int .i64 0, .int .i64 0, .slice none 0 0] 106))
            have hy3 := Nat.le_of_eq (World.size_alloc v2 (.cells #[.int .i64 0, .int .i64 0, .int .i64 0, .int .u64 0, .int .i64 0, .int .i64 0, .int .i64 0, .slice none 0 0] 106)).symm
            have hl3 := ti_lt hB2
            have r13_3 := rd_below r13_2 (bl_all (Below.refl v2.heap.size v2) (.cells #[.int .i64 0, .int .i64 0, .int .i64 0, .int .u64 0, .int .i64 0, .int .i64 0, .int .i64 0, .slice none 0 0] 106))
            have r14_3 := rd_below r14_2 (bl_all (Below.refl v2.heap.size v2) (.cells #[.int .i64 0, .int .i64 0, .int .i64 0, .int .u64 0, .int .i64 0, .int .i64 0, .int .i64 0, .slice none 0 0] 106))
            generalize v2.alloc (.cells #[.int .i64 0, .int .i64 0, .int .i64 0, .int .u64 0, .int .i64 0, .int .i64 0, .int .i64 0, .slice none 0 0] 106) = v3 at hB3 hz3 hy3 h8_3 r13_3 r14_3 ⊢
            refine hK.out _ _ (ti_cw hB3) (fun hHeld => ?_)
            clear hK K
            refine one_ (i := 9) (N := some 14) #[true, true, true, true, true, true, true, true, true, true, false, false] rfl rfl (by kernel_rfl) (by decide) (fun K hK => ?_)
            go_simp
            have hB4 := ti_alloc hB3 (.cells #[.int .i64 0, .int .i64 0, .int .i64 0, .int .u64 0, .int .i64 0, .int .i64 0, .int .i64 0, .slice none 0 0] 106)
            have h9_4 := new_at v3 (.cells #[.int .i64 0, .int .i64 0, .int .i64 0, .int .u64 0, .int .i64 0, .int .i64 0, .int .i64 0, .slice none 0 0] 106)
            have hz4 := Nat.le_of_eq (World.size_alloc v3 (.cells #[.int .i64 0, .int .i64 0, .int .i64 0, .int .u64 0, .int .i64 0, .int .i64 0, .int .i64 0, .slice none 0 0] 106))
            have hy4 := Nat.le_of_eq (World.size_alloc v3 (.cells #[.int .i64 0, .int .i64 0, .int .i64 0, .int .u64 0, .int .i64 0, .int .i64 0, .int .i64 0, .slice none 0 0] 106)).symm
            have hl4 := ti_lt hB3
            have h8_4 := old_at h8_3 (.cells #[.int .i64 0, .int .i64 0, .int .i64 0, .int .u64 0, .int .i64 0, .int .i64 0, .int .i64 0, .slice none 0 0] 106)
            have r13_4 := rd_below r13_3 (bl_all (Below.refl v3.heap.size v3) (.cells #[.int .i64 0, .int .i64 0, .int .i64 0, .int .u64 0, .int .i64 0, .int .i64 0, .int .i64 0, .slice none 0 0] 106))
            have r14_4 := rd_below r14_3 (bl_all (Below.refl v3.heap.size v3) (.cells #[.int .i64 0, .int .i64 0, .int .i64 0, .int .u64 0, .int .i64 0, .int .i64 0, .int .i64 0, .slice none 0 0] 106))
            generalize v3.alloc (.cells #[.int .i64 0, .int .i64 0, .int .i64 0, .int .u64 0, .int .i64 0, .int .i64 0, .int .i64 0, .slice none 0 0] 106) = v4 at hB4 hz4 hy4 h8_4 h9_4 r13_4 r14_4 ⊢
            refine hK.out _ _ (ti_cw hB4) (fun hHeld => ?_)
            clear hK K
            obtain ⟨n0, n1, n2, n3, n4, n5, n6, n7⟩ := cl8 h8_4
            obtain ⟨m0, m1, m2, m3, m4, m5, m6, m7⟩ := fz8 h8_4
            refine last_ (i := 10) (N := none) #[true, true, true, true, true, true, true, true, true, true, true, false] rfl rfl (by kernel_rfl) (by decide) (fun K hK => ?_)
            go_simp
            refine hK.out _ _ ?_
            clear hK K n0 n1 n2 n3 n4 n5 n6 n7 m0 m1 m2 m3 m4 m5 m6 m7
            obtain ⟨x1, e1⟩ : ∃ x1, x1 = ((((((((v4.setCell ⟨v2.heap.size, 0, none⟩ (.int .i64 ac.1.kind)).setCell ⟨v2.heap.size, 1, none⟩ (.int .i64 ac.1.who)).setCell ⟨v2.heap.size, 2, none⟩ (.int .i64 ac.1.at_)).setCell ⟨v2.heap.size, 3, none⟩ (.int .u64 ac.1.mask)).setCell ⟨v2.heap.size, 4, none⟩ (.int .i64 ac.1.r.kd)).setCell ⟨v2.heap.size, 5, none⟩ (.int .i64 ac.1.r.off)).setCell ⟨v2.heap.size, 6, none⟩ (.int .i64 ac.1.r.len)).setCell ⟨v2.heap.size, 7, none⟩ (.slice A1_ ac.1.r.data.length d1_)) := ⟨_, rfl⟩
            have k9 : x1.heap[v3.heap.size]? = some (.cells #[.int .i64 0, .int .i64 0, .int .i64 0, .int .u64 0, .int .i64 0, .int .i64 0, .int .i64 0, .slice none 0 0] 106 (0, 0)) := by rw [e1]; exact blk_only h9_4 (only8 _ _ _ _ _ _ _ _ _ _) (by omega)
            rw [← e1]
            have E1 := Lib.hid e1
            clear e1
            obtain ⟨n0, n1, n2, n3, n4, n5, n6, n7⟩ := cl8 k9
            obtain ⟨m0, m1, m2, m3, m4, m5, m6, m7⟩ := fz8 k9
            refine last_ (i := 11) (N := none) #[true, true, true, true, true, true, true, true, true, true, true, true] rfl rfl (by kernel_rfl) (by decide) (fun K hK => ?_)
            go_simp
            refine hK.out _ _ ?_
            clear hK K
            obtain ⟨x2, e2⟩ : ∃ x2, x2 = ((((((((x1.setCell ⟨v3.heap.size, 0, none⟩ (.int .i64 ac.1.kind)).setCell ⟨v3.heap.size, 1, none⟩ (.int .i64 ac.1.who)).setCell ⟨v3.heap.size, 2, none⟩ (.int .i64 ac.1.at_)).setCell ⟨v3.heap.size, 3, none⟩ (.int .u64 ac.1.mask)).setCell ⟨v3.heap.size, 4, none⟩ (.int .i64 ac.1.r.kd)).setCell ⟨v3.heap.size, 5, none⟩ (.int .i64 ac.1.r.off)).setCell ⟨v3.heap.size, 6, none⟩ (.int .i64 ac.1.r.len)).setCell ⟨v3.heap.size, 7, none⟩ (.slice A2_ ac.1.r.data.length d2_)) := ⟨_, rfl⟩
            rw [← e2]
            have tw := two_end (by omega) h8_4 h9_4 r13_4 r14_4 (fun k h1 h2 he => by rcases he with he | he <;> omega) (fun k h1 h2 he => by rcases he with he | he <;> omega) E1.out e2
            have hB9 := ti_far2 hB4 tw.2 (by omega) (by omega)
            refine done_ (by kernel_rfl) ?_
            go_wp2
            go_meet
            case rel => exact ⟨_, _, rfl, rfl, Lib.hid tw.1, Lib.hid hB9⟩
          · go_simp
            have hB5 := ti_alloc hB2 (.cells #[.int .i64 0, .int .i64 0, .int .i64 0, .int .u64 0, .int .i64 0, .int .i64 0, .int .i64 0, .slice none 0 0] 106)
            have h9_5 := new_at v2 (.cells #[.int .i64 0, .int .i64 0, .int .i64 0, .int .u64 0, .int .i64 0, .int .i64 0, .int .i64 0, .slice none 0 0] 106)
            have hz5 := Nat.le_of_eq (World.size_alloc v2 (.cells #[.int .i64 0, .int .i64 0, .int .i64 0, .int .u64 0, .int .i64 0, .int .i64 0, .int .i64 0, .slice none 0 0] 106))
            have hy5 := Nat.le_of_eq (World.size_alloc v2 (.cells #[.int .i64 0, .int .i64 0, .int .i64 0, .int .u64 0, .int .i64 0, .int .i64 0, .int .i64 0, .slice none 0 0] 106)).symm
            have hl5 := ti_lt hB2
            have r13_5 := rd_below r13_2 (bl_all (Below.refl v2.heap.size v2) (.cells #[.int .i64 0, .int .i64 0, .int .i64 0, .int .u64 0, .int .i64 0, .int .i64 0, .int .i64 0, .slice none 0 0] 106))
            have r14_5 := rd_below r14_2 (bl_all (Below.refl v2.heap.size v2) (.cells #[.int .i64 0, .int .i64 0, .int .i64 0, .int .u64 0, .int .i64 0, .int .i64 0, .int .i64 0, .slice none 0 0] 106))
            generalize v2.alloc (.cells #[.int .i64 0, .int .i64 0, .int .i64 0, .int .u64 0, .int .i64 0, .int .i64 0, .int .i64 0, .slice none 0 0] 106) = v5 at hB5 hz5 hy5 h9_5 r13_5 r14_5 ⊢
            refine hK.out _ _ (ti_cw hB5) (fun hHeld => ?_)
            clear hK K
            refine one_ (i := 8) (N := some 13) #[true, true, true, true, true, true, true, true, true, true, false, false] rfl rfl (by kernel_rfl) (by decide) (fun K hK => ?_)
            go_simp
            have hB6 := ti_alloc hB5 (.cells #[.int .i64 0, .int .i64 0, .int .i64 0, .int .u64 0, .int .i64 0, .int .i64 0, .int .i64 0, .slice none 0 0] 106)
            have h8_6 := new_at v5 (.cells #[.int .i64 0, .int .i64 0, .int .i64 0, .int .u64 0, .int .i64 0, .int .i64 0, .int .i64 0, .slice none 0 0] 106)
            have hz6 := Nat.le_of_eq (World.size_alloc v5 (.cells #[.int .i64 0, .int .i64 0, .int .i64 0, .int .u64 0, .int .i64 0, .int .i64 0, .int .i64 0, .slice none 0 0] 106))
            have hy6 := Nat.le_of_eq (World.size_alloc v5 (.cells #[.int .i64 0, .int .i64 0, .int .i64 0, .int .u64 0, .int .i64 0, .int .i64 0, .int .i64 0, .slice none 0 0] 106)).symm
            have hl6 := ti_lt hB5
            have h9_6 := old_at h9_5 (.cells #[.int .i64 0, .int .i64 0, .int .i64 0, .int .u64 0, .int .i64 0, .int .i64 0, .int .i64 0, .slice none 0 0] 106)
            have r13_6 := rd_below r13_5 (bl_all (Below.refl v5.heap.size v5) (.cells #[.int .i64 0, .int .i64 0, .int .i64 0, .int .u64 0, .int .i64 0, .int .i64 0, .int .i64 0, .slice none 0 0] 106))
            have r14_6 := rd_below r14_5 (bl_all (Below.refl v5.heap.size v5) (.cells #[.int .i64 0, .int .i64 0, .int .i64 0, .int .u64 0, .int .i64 0, .int .i64 0, .int .i64 0, .slice none 0 0] 106))
            generalize v5.alloc (.cells #[.int .i64 0, .int .i64 0, .int .i64 0, .int .u64 0, .int .i64 0, .int .i64 0, .int .i64 0, .slice none 0 0] 106) = v6 at hB6 hz6 hy6 h8_6 h9_6 r13_6 r14_6 ⊢
            refine hK.out _ _ (ti_cw hB6) (fun hHeld => ?_)
            clear hK K
            obtain ⟨n0, n1, n2, n3, n4, n5, n6, n7⟩ := cl8 h8_6
            obtain ⟨m0, m1, m2, m3, m4, m5, m6, m7⟩ := fz8 h8_6
            refine last_ (i := 10) (N := none) #[true, true, true, true, true, true, true, true, true, true, true, false] rfl rfl (by kernel_rfl) (by decide) (fun K hK => ?_)
            go_simp
            refine hK.out _ _ ?_
            clear hK K n0 n1 n2 n3 n4 n5 n6 n7 m0 m1 m2 m3 m4 m5 m6 m7
            obtain ⟨x1, e1⟩ : ∃ x1, x1 = ((((((((v6.setCell ⟨v5.heap.size, 0, none⟩ (.int .i64 ac.1.kind)).setCell ⟨v5.heap.size, 1, none⟩ (.int .i64 ac.1.who)).setCell ⟨v5.heap.size, 2, none⟩ (.int .i64 ac.1.at_)).setCell ⟨v5.heap.size, 3, none⟩ (.int .u64 ac.1.mask)).setCell ⟨v5.heap.size, 4, none⟩ (.int .i64 ac.1.r.kd)).setCell ⟨v5.heap.size, 5, none⟩ (.int .i64 ac.1.r.off)).setCell ⟨v5.heap.size, 6, none⟩ (.int .i64 ac.1.r.len)).setCell ⟨v5.heap.size, 7, none⟩ (.slice A1_ ac.1.r.data.length d1_)) := ⟨_, rfl⟩
            have k9 : x1.heap[v2.heap.size]? = some (.cells #[.int .i64 0, .int .i64 0, .int .i64 0, .int .u64 0, .int .i64 0, .int .i64 0, .int .i64 0, .slice none 0 0] 106 (0, 0)) := by rw [e1]; exact blk_only h9_6 (only8 _ _ _ _ _ _ _ _ _ _) (by omega)
            rw [← e1]
            have E1 := Lib.hid e1
            clear e1
            obtain ⟨n0, n1, n2, n3, n4, n5, n6, n7⟩ := cl8 k9
            obtain ⟨m0, m1, m2, m3, m4, m5, m6, m7⟩ := fz8 k9
            refine last_ (i := 11) (N := none) #[true, true, true, true, true, true, true, true, true, true, true, true] rfl rfl (by kernel_rfl) (by decide) (fun K hK => ?_)
            go_simp
            refine hK.out _ _ ?_
            clear hK K
            obtain ⟨x2, e2⟩ : ∃ x2, x2 = ((((((((x1.setCell ⟨v2.heap.size, 0, none⟩ (.int .i64 ac.1.kind)).setCell ⟨v2.heap.size, 1, none⟩ (.int .i64 ac.1.who)).setCell ⟨v2.heap.size, 2, none⟩ (.int .i64 ac.1.at_)).setCell ⟨v2.heap.size, 3, none⟩ (.int .u64 ac.1.mask)).setCell ⟨v2.heap.size, 4, none⟩ (.int .i64 ac.1.r.kd)).setCell ⟨v2.heap.size, 5, none⟩ (.int .i64 ac.1.r.off)).setCell ⟨v2.heap.size, 6, none⟩ (.int .i64 ac.1.r.len)).setCell ⟨v2.heap.size, 7, none⟩ (.slice A2_ ac.1.r.data.length d2_)) := ⟨_, rfl⟩
            rw [← e2]
            have tw := two_end (by omega) h8_6 h9_6 r13_6 r14_6 (fun k h1 h2 he => by rcases he with he | he <;> omega) (fun k h1 h2 he => by rcases he with he | he <;> omega) E1.out e2
            have hB9 := ti_far2 hB6 tw.2 (by omega) (by omega)
            refine done_ (by kernel_rfl) ?_
            go_wp2
            go_meet
            case rel => exact ⟨_, _, rfl, rfl, Lib.hid tw.1, Lib.hid hB9⟩
        · go_simp
          have hB7 := ti_alloc hB1 (.cells #[.int .i64 0, .int .i64 0, .int .i64 0, .int .u64 0, .int .i64 0, .int .i64 0, .int .i64 0, .slice none 0 0] 106)
          have h8_7 := new_at v1 (.cells #[.int .i64 0, .int .i64 0, .int .i64 0, .int .u64 0, .int .i64 0, .int .i64 0, .int .i64 0, .slice none 0 0] 106)
          have hz7 := Nat.le_of_eq (World.size_alloc v1 (.cells #[.int .i64 0, .int .i64 0, .int .i64 0, .int .u64 0, .int .i64 0, .int .i64 0, .int .i64 0, .slice none 0 0] 106))
          have hy7 := Nat.le_of_eq (World.size_alloc v1 (.cells #[.int .i64 0, .int .i64 0, .int .i64 0, .int .u64 0, .int .i64 0, .int .i64 0, .int .i64 0, .slice none 0 0] 106)).symm
          have hl7 := ti_lt hB1
          have r13_7 := rd_below r13_1 (bl_all (Below.refl v1.heap.size v1) (.cells #[.int .i64 0, .int .i64 0, .int .i64 0, .int .u64 0, .int .i64 0, .int .i64 0, .int .i64 0, .slice none 0 0] 106))
          generalize v1.alloc (.cells #[.int .i64 0, .int .i64 0, .int .i64 0, .int .u64 0, .int .i64 0, .int .i64 0, .int .i64 0, .slice none 0 0] 106) = v7 at hB7 hz7 hy7 h8_7 r13_7 ⊢
          refine hK.out _ _ (ti_cw hB7) (fun hHeld => ?_)
          clear hK K
          refine two_ (i := 7) (j := 9) (Ni := some 64) (Nj := some 14) #[true, true, true, true, true, true, true, true, true, false, false, false] #[true, true, true, true, true, true, true, false, true, true, false, false] rfl rfl rfl rfl (by kernel_rfl) (by decide) (by decide) (fun K hK => ?_) (fun K hK => ?_)
          · refine goes_ Try.func51 (by kernel_rfl) rfl #[.pointer (some ⟨g, 0, none⟩), Cf c0 c1 c2 c3 c4, W8 a0 a1 a2 a3 a4 a5 a6 a7] (by rfl) rfl rfl (by (try simp only [List.map_toArray, List.map_cons, List.map_nil]); first | done | rfl) ?_
            refine (AC.out _ (ti_dp hB7)).mono ?_
            rintro e v8 ⟨u8, rfl, hr, hd, ho⟩
            obtain ⟨A8_, d8_, rfl⟩ := Kd.R_slice hr
            have hB8 := ti_prog hB7 hd ho
            have hz8 := ho.size
            have hl8 := ti_lt hB7
            have h8_8 := blk_only h8_7 ho (by omega)
            have r13_8 := rd_only r13_7 ho (fun k h1 h2 he => by omega)
            have r14_8 := rd_mk hr ho.size
            clear hr hd ho
            refine ⟨_, rfl, ?_⟩
            refine hK.out _ _ (ti_cw hB8) (fun hHeld => ?_)
            clear hK K
            refine norm_ (a' := ?_) ?_ ?_
            rotate_left
            · show Act.put _ (some 64) _ = _
              simp only [Act.put, List.setIfInBounds_toArray, List.set_cons_zero, List.set_cons_succ]
              rfl
            refine one_ (i := 9) (N := some 14) #[true, true, true, true, true, true, true, true, true, true, false, false] rfl rfl (by kernel_rfl) (by decide) (fun K hK => ?_)
            go_simp
            have hB9 := ti_alloc hB8 (.cells #[.int .i64 0, .int .i64 0, .int .i64 0, .int .u64 0, .int .i64 0, .int .i64 0, .int .i64 0, .slice none 0 0] 106)
            have h9_9 := new_at v8 (.cells #[.int .i64 0, .int .i64 0, .int .i64 0, .int .u64 0, .int .i64 0, .int .i64 0, .int .i64 0, .slice none 0 0] 106)
            have hz9 := Nat.le_of_eq (World.size_alloc v8 (.cells #[.int .i64 0, .int .i64 0, .int .i64 0, .int .u64 0, .int .i64 0, .int .i64 0, .int .i64 0, .slice none 0 0] 106))
            have hy9 := Nat.le_of_eq (World.size_alloc v8 (.cells #[.int .i64 0, .int .i64 0, .int .i64 0, .int .u64 0, .int .i64 0, .int .i64 0, .int .i64 0, .slice none 0 0] 106)).symm
            have hl9 := ti_lt hB8
            have h8_9 := old_at h8_8 (.cells #[.int .i64 0, .int .i64 0, .int .i64 0, .int .u64 0, .int .i64 0, .int .i64 0, .int .i64 0, .slice none 0 0] 106)
            have r13_9 := rd_below r13_8 (bl_all (Below.refl v8.heap.size v8) (.cells #[.int .i64 0, .int .i64 0, .int .i64 0, .int .u64 0, .int .i64 0, .int .i64 0, .int .i64 0, .slice none 0 0] 106))
            have r14_9 := rd_below r14_8 (bl_all (Below.refl v8.heap.size v8) (.cells #[.int .i64 0, .int .i64 0, .int .i64 0, .int .u64 0, .int .i64 0, .int .i64 0, .int .i64 0, .slice none 0 0] 106))
            generalize v8.alloc (.cells #[.int .i64 0, .int .i64 0, .int .i64 0, .int .u64 0, .int .i64 0, .int .i64 0, .int .i64 0, .slice none 0 0] 106) = v9 at hB9 hz9 hy9 h8_9 h9_9 r13_9 r14_9 ⊢
            refine hK.out _ _ (ti_cw hB9) (fun hHeld => ?_)
            clear hK K
            obtain ⟨n0, n1, n2, n3, n4, n5, n6, n7⟩ := cl8 h8_9
            obtain ⟨m0, m1, m2, m3, m4, m5, m6, m7⟩ := fz8 h8_9
            refine last_ (i := 10) (N := none) #[true, true, true, true, true, true, true, true, true, true, true, false] rfl rfl (by kernel_rfl) (by decide) (fun K hK => ?_)
            go_simp
            refine hK.out _ _ ?_
            clear hK K n0 n1 n2 n3 n4 n5 n6 n7 m0 m1 m2 m3 m4 m5 m6 m7
            obtain ⟨x1, e1⟩ : ∃ x1, x1 = ((((((((v9.setCell ⟨v1.heap.size, 0, none⟩ (.int .i64 ac.1.kind)).setCell ⟨v1.heap.size, 1, none⟩ (.int .i64 ac.1.who)).setCell ⟨v1.heap.size, 2, none⟩ (.int .i64 ac.1.at_)).setCell ⟨v1.heap.size, 3, none⟩ (.int .u64 ac.1.mask)).setCell ⟨v1.heap.size, 4, none⟩ (.int .i64 ac.1.r.kd)).setCell ⟨v1.heap.size, 5, none⟩ (.int .i64 ac.1.r.off)).setCell ⟨v1.heap.size, 6, none⟩ (.int .i64 ac.1.r.len)).setCell ⟨v1.heap.size, 7, none⟩ (.slice A1_ ac.1.r.data.length d1_)) := ⟨_, rfl⟩
            have k9 : x1.heap[v8.heap.size]? = some (.cells #[.int .i64 0, .int .i64 0, .int .i64 0, .int .u64 0, .int .i64 0, .int .i64 0, .int .i64 0, .slice none 0 0] 106 (0, 0)) := by rw [e1]; exact blk_only h9_9 (only8 _ _ _ _ _ _ _ _ _ _) (by omega)
            rw [← e1]
            have E1 := Lib.hid e1
            clear e1
            obtain ⟨n0, n1, n2, n3, n4, n5, n6, n7⟩ := cl8 k9
            obtain ⟨m0, m1, m2, m3, m4, m5, m6, m7⟩ := fz8 k9
            refine last_ (i := 11) (N := none) #[true, true, true, true, true, true, true, true, true, true, true, true] rfl rfl (by kernel_rfl) (by decide) (fun K hK => ?_)
            go_simp
            refine hK.out _ _ ?_
            clear hK K
            obtain ⟨x2, e2⟩ : ∃ x2, x2 = ((((((((x1.setCell ⟨v8.heap.size, 0, none⟩ (.int .i64 ac.1.kind)).setCell ⟨v8.heap.size, 1, none⟩ (.int .i64 ac.1.who)).setCell ⟨v8.heap.size, 2, none⟩ (.int .i64 ac.1.at_)).setCell ⟨v8.heap.size, 3, none⟩ (.int .u64 ac.1.mask)).setCell ⟨v8.heap.size, 4, none⟩ (.int .i64 ac.1.r.kd)).setCell ⟨v8.heap.size, 5, none⟩ (.int .i64 ac.1.r.off)).setCell ⟨v8.heap.size, 6, none⟩ (.int .i64 ac.1.r.len)).setCell ⟨v8.heap.size, 7, none⟩ (.slice A8_ ac.1.r.data.length d8_)) := ⟨_, rfl⟩
            rw [← e2]
            have tw := two_end (by omega) h8_9 h9_9 r13_9 r14_9 (fun k h1 h2 he => by rcases he with he | he <;> omega) (fun k h1 h2 he => by rcases he with he | he <;> omega) E1.out e2
            have hB9 := ti_far2 hB9 tw.2 (by omega) (by omega)
            refine done_ (by kernel_rfl) ?_
            go_wp2
            go_meet
            case rel => exact ⟨_, _, rfl, rfl, Lib.hid tw.1, Lib.hid hB9⟩
          · go_simp
            have hB10 := ti_alloc hB7 (.cells #[.int .i64 0, .int .i64 0, .int .i64 0, .int .u64 0, .int .i64 0, .int .i64 0, .int .i64 0, .slice none 0 0] 106)
            have h9_10 := new_at v7 (.cells #[.int .i64 0, .int .i64 0, .int .i64 0, .int .u64 0, .int .i64 0, .int .i64 0, .int .i64 0, .slice none 0 0] 106)
            have hz10 := Nat.le_of_eq (World.size_alloc v7 (.cells #[.int .i64 0, .int .i64 0, .int .i64 0, .int .u64 0, .int .i64 0, .int .i64 0, .int .i64 0, .slice none 0 0] 106))
            have hy10 := Nat.le_of_eq (World.size_alloc v7 (.cells #[.int .i64 0, .int .i64 0, .int .i64 0, .int .u64 0, .int .i64 0, .int .i64 0, .int .i64 0, .slice none 0 0] 106)).symm
            have hl10 := ti_lt hB7
            have h8_10 := old_at h8_7 (.cells #[.int .i64 0, .int .i64 0, .int .i64 0, .int .u64 0, .int .i64 0, .int .i64 0, .int .i64 0, .slice none 0 0] 106)
            have r13_10 := rd_below r13_7 (bl_all (Below.refl v7.heap.size v7) (.cells #[.int .i64 0, .int .i64 0, .int .i64 0, .int .u64 0, .int .i64 0, .int .i64 0, .int .i64 0, .slice none 0 0] 106))
            generalize v7.alloc (.cells #[.int .i64 0, .int .i64 0, .int .i64 0, .int .u64 0, .int .i64 0, .int .i64 0, .int .i64 0, .slice none 0 0] 106) = v10 at hB10 hz10 hy10 h8_10 h9_10 r13_10 ⊢
            refine hK.out _ _ (ti_cw hB10) (fun hHeld => ?_)
            clear hK K
            refine one_ (i := 7) (N := some 64) #[true, true, true, true, true, true, true, true, true, true, false, false] rfl rfl (by kernel_rfl) (by decide) (fun K hK => ?_)
            refine goes_ Try.func51 (by kernel_rfl) rfl #[.pointer (some ⟨g, 0, none⟩), Cf c0 c1 c2 c3 c4, W8 a0 a1 a2 a3 a4 a5 a6 a7] (by rfl) rfl rfl (by (try simp only [List.map_toArray, List.map_cons, List.map_nil]); first | done | rfl) ?_
            refine (AC.out _ (ti_dp hB10)).mono ?_
            rintro e v11 ⟨u11, rfl, hr, hd, ho⟩
            obtain ⟨A11_, d11_, rfl⟩ := Kd.R_slice hr
            have hB11 := ti_prog hB10 hd ho
            have hz11 := ho.size
            have hl11 := ti_lt hB10
            have h8_11 := blk_only h8_10 ho (by omega)
            have h9_11 := blk_only h9_10 ho (by omega)
            have r13_11 := rd_only r13_10 ho (fun k h1 h2 he => by omega)
            have r14_11 := rd_mk hr ho.size
            clear hr hd ho
            refine ⟨_, rfl, ?_⟩
            refine hK.out _ _ (ti_cw hB11) (fun hHeld => ?_)
            clear hK K
            refine norm_ (a' := ?_) ?_ ?_
            rotate_left
            · show Act.put _ (some 64) _ = _
              simp only [Act.put, List.setIfInBounds_toArray, List.set_cons_zero, List.set_cons_succ]
              rfl
            obtain ⟨n0, n1, n2, n3, n4, n5, n6, n7⟩ := cl8 h8_11
            obtain ⟨m0, m1, m2, m3, m4, m5, m6, m7⟩ := fz8 h8_11
            refine last_ (i := 10) (N := none) #[true, true, true, true, true, true, true, true, true, true, true, false] rfl rfl (by kernel_rfl) (by decide) (fun K hK => ?_)
            go_simp
            refine hK.out _ _ ?_
            clear hK K n0 n1 n2 n3 n4 n5 n6 n7 m0 m1 m2 m3 m4 m5 m6 m7
            obtain ⟨x1, e1⟩ : ∃ x1, x1 = ((((((((v11.setCell ⟨v1.heap.size, 0, none⟩ (.int .i64 ac.1.kind)).setCell ⟨v1.heap.size, 1, none⟩ (.int .i64 ac.1.who)).setCell ⟨v1.heap.size, 2, none⟩ (.int .i64 ac.1.at_)).setCell ⟨v1.heap.size, 3, none⟩ (.int .u64 ac.1.mask)).setCell ⟨v1.heap.size, 4, none⟩ (.int .i64 ac.1.r.kd)).setCell ⟨v1.heap.size, 5, none⟩ (.int .i64 ac.1.r.off)).setCell ⟨v1.heap.size, 6, none⟩ (.int .i64 ac.1.r.len)).setCell ⟨v1.heap.size, 7, none⟩ (.slice A1_ ac.1.r.data.length d1_)) := ⟨_, rfl⟩
            have k9 : x1.heap[v7.heap.size]? = some (.cells #[.int .i64 0, .int .i64 0, .int .i64 0, .int .u64 0, .int .i64 0, .int .i64 0, .int .i64 0, .slice none 0 0] 106 (0, 0)) := by rw [e1]; exact blk_only h9_11 (only8 _ _ _ _ _ _ _ _ _ _) (by omega)
            rw [← e1]
            have E1 := Lib.hid e1
            clear e1
            obtain ⟨n0, n1, n2, n3, n4, n5, n6, n7⟩ := cl8 k9
            obtain ⟨m0, m1, m2, m3, m4, m5, m6, m7⟩ := fz8 k9
            refine last_ (i := 11) (N := none) #[true, true, true, true, true, true, true, true, true, true, true, true] rfl rfl (by kernel_rfl) (by decide) (fun K hK => ?_)
            go_simp
            refine hK.out _ _ ?_
            clear hK K
            obtain ⟨x2, e2⟩ : ∃ x2, x2 = ((((((((x1.setCell ⟨v7.heap.size, 0, none⟩ (.int .i64 ac.1.kind)).setCell ⟨v7.heap.size, 1, none⟩ (.int .i64 ac.1.who)).setCell ⟨v7.heap.size, 2, none⟩ (.int .i64 ac.1.at_)).setCell ⟨v7.heap.size, 3, none⟩ (.int .u64 ac.1.mask)).setCell ⟨v7.heap.size, 4, none⟩ (.int .i64 ac.1.r.kd)).setCell ⟨v7.heap.size, 5, none⟩ (.int .i64 ac.1.r.off)).setCell ⟨v7.heap.size, 6, none⟩ (.int .i64 ac.1.r.len)).setCell ⟨v7.heap.size, 7, none⟩ (.slice A11_ ac.1.r.data.length d11_)) := ⟨_, rfl⟩
            rw [← e2]
            have tw := two_end (by omega) h8_11 h9_11 r13_11 r14_11 (fun k h1 h2 he => by rcases he with he | he <;> omega) (fun k h1 h2 he => by rcases he with he | he <;> omega) E1.out e2
            have hB9 := ti_far2 hB11 tw.2 (by omega) (by omega)
            refine done_ (by kernel_rfl) ?_
            go_wp2
            go_meet
            case rel => exact ⟨_, _, rfl, rfl, Lib.hid tw.1, Lib.hid hB9⟩
        · go_simp
          have hB12 := ti_alloc hB1 (.cells #[.int .i64 0, .int .i64 0, .int .i64 0, .int .u64 0, .int .i64 0, .int .i64 0, .int .i64 0, .slice none 0 0] 106)
          have h9_12 := new_at v1 (.cells #[.int .i64 0, .int .i64 0, .int .i64 0, .int .u64 0, .int .i64 0, .int .i64 0, .int .i64 0, .slice none 0 0] 106)
          have hz12 := Nat.le_of_eq (World.size_alloc v1 (.cells #[.int .i64 0, .int .i64 0, .int .i64 0, .int .u64 0, .int .i64 0, .int .i64 0, .int .i64 0, .slice none 0 0] 106))
          have hy12 := Nat.le_of_eq (World.size_alloc v1 (.cells #[.int .i64 0, .int .i64 0, .int .i64 0, .int .u64 0, .int .i64 0, .int .i64 0, .int .i64 0, .slice none 0 0] 106)).symm
          have hl12 := ti_lt hB1
          have r13_12 := rd_below r13_1 (bl_all (Below.refl v1.heap.size v1) (.cells #[.int .i64 0, .int .i64 0, .int .i64 0, .int .u64 0, .int .i64 0, .int .i64 0, .int .i64 0, .slice none 0 0] 106))
          generalize v1.alloc (.cells #[.int .i64 0, .int .i64 0, .int .i64 0, .int .u64 0, .int .i64 0, .int .i64 0, .int .i64 0, .slice none 0 0] 106) = v12 at hB12 hz12 hy12 h9_12 r13_12 ⊢
          refine hK.out _ _ (ti_cw hB12) (fun hHeld => ?_)
          clear hK K
          refine two_ (i := 7) (j := 8) (Ni := some 64) (Nj := some 13) #[true, true, true, true, true, true, true, true, false, true, false, false] #[true, true, true, true, true, true, true, false, true, true, false, false] rfl rfl rfl rfl (by kernel_rfl) (by decide) (by decide) (fun K hK => ?_) (fun K hK => ?_)
          · refine goes_ Try.func51 (by kernel_rfl) rfl #[.pointer (some ⟨g, 0, none⟩), Cf c0 c1 c2 c3 c4, W8 a0 a1 a2 a3 a4 a5 a6 a7] (by rfl) rfl rfl (by (try simp only [List.map_toArray, List.map_cons, List.map_nil]); first | done | rfl) ?_
            refine (AC.out _ (ti_dp hB12)).mono ?_
            rintro e v13 ⟨u13, rfl, hr, hd, ho⟩
            obtain ⟨A13_, d13_, rfl⟩ := Kd.R_slice hr
            have hB13 := ti_prog hB12 hd ho
            have hz13 := ho.size
            have hl13 := ti_lt hB12
            have h9_13 := blk_only h9_12 ho (by omega)
            have r13_13 := rd_only r13_12 ho (fun k h1 h2 he => by omega)
            have r14_13 := rd_mk hr ho.size
            clear hr hd ho
            refine ⟨_, rfl, ?_⟩
            refine hK.out _ _ (ti_cw hB13) (fun hHeld => ?_)
            clear hK K
            refine norm_ (a' := ?_) ?_ ?_
            rotate_left
            · show Act.put _ (some 64) _ = _
              simp only [Act.put, List.setIfInBounds_toArray, List.set_cons_zero, List.set_cons_succ]
              rfl
            refine one_ (i := 8) (N := some 13) #[true, true, true, true, true, true, true, true, true, true, false, false] rfl rfl (by kernel_rfl) (by decide) (fun K hK => ?_)
            go_simp
            have hB14 := ti_alloc hB13 (.cells #[.int .i64 0, .int .i64 0, .int .i64 0, .int .u64 0, .int .i64 0, .int .i64 0, .int .i64 0, .slice none 0 0] 106)
            have h8_14 := new_at v13 (.cells #[.int .i64 0, .int .i64 0, .int .i64 0, .int .u64 0, .int .i64 0, .int .i64 0, .int .i64 0, .slice none 0 0] 106)
            have hz14 := Nat.le_of_eq (World.size_alloc v13 (.cells #[.int .i64 0, .int .i64 0, .int .i64 0, .int .u64 0, .int .i64 0, .int .i64 0, .int .i64 0, .slice none 0 0] 106))
            have hy14 := Nat.le_of_eq (World.size_alloc v13 (.cells #[.int .i64 0, .int .i64 0, .int .i64 0, .int .u64 0, .int .i64 0, .int .i64 0, .int .i64 0, .slice none 0 0] 106)).symm
            have hl14 := ti_lt hB13
            have h9_14 := old_at h9_13 (.cells #[.int .i64 0, .int .i64 0, .int .i64 0, .int .u64 0, .int .i64 0, .int .i64 0, .int .i64 0, .slice none 0 0] 106)
            have r13_14 := rd_below r13_13 (bl_all (Below.refl v13.heap.size v13) (.cells #[.int .i64 0, .int .i64 0, .int .i64 0, .int .u64 0, .int .i64 0, .int .i64 0, .int .i64 0, .slice none 0 0] 106))
            have r14_14 := rd_below r14_13 (bl_all (Below.refl v13.heap.size v13) (.cells #[.int .i64 0, .int .i64 0, .int .i64 0, .int .u64 0, .int .i64 0, .int .i64 0, .int .i64 0, .slice none 0 0] 106))
            generalize v13.alloc (.cells #[.int .i64 0, .int .i64 0, .int .i64 0, .int .u64 0, .int .i64 0, .int .i64 0, .int .i64 0, .slice none 0 0] 106) = v14 at hB14 hz14 hy14 h8_14 h9_14 r13_14 r14_14 ⊢
            refine hK.out _ _ (ti_cw hB14) (fun hHeld => ?_)
            clear hK K
            obtain ⟨n0, n1, n2, n3, n4, n5, n6, n7⟩ := cl8 h8_14
            obtain ⟨m0, m1, m2, m3, m4, m5, m6, m7⟩ := fz8 h8_14
            refine last_ (i := 10) (N := none) #[true, true, true, true, true, true, true, true, true, true, true, false] rfl rfl (by kernel_rfl) (by decide) (fun K hK => ?_)
            go_simp
            refine hK.out _ _ ?_
            clear hK K n0 n1 n2 n3 n4 n5 n6 n7 m0 m1 m2 m3 m4 m5 m6 m7
            obtain ⟨x1, e1⟩ : ∃ x1, x1 = ((((((((v14.setCell ⟨v13.heap.size, 0, none⟩ (.int .i64 ac.1.kind)).setCell ⟨v13.heap.size, 1, none⟩ (.int .i64 ac.1.who)).setCell ⟨v13.heap.size, 2, none⟩ (.int .i64 ac.1.at_)).setCell ⟨v13.heap.size, 3, none⟩ (.int .u64 ac.1.mask)).setCell ⟨v13.heap.size, 4, none⟩ (.int .i64 ac.1.r.kd)).setCell ⟨v13.heap.size, 5, none⟩ (.int .i64 ac.1.r.off)).setCell ⟨v13.heap.size, 6, none⟩ (.int .i64 ac.1.r.len)).setCell ⟨v13.heap.size, 7, none⟩ (.slice A1_ ac.1.r.data.length d1_)) := ⟨_, rfl⟩
            have k9 : x1.heap[v1.heap.size]? = some (.cells #[.int .i64 0, .int .i64 0, .int .i64 0, .int .u64 0, .int .i64 0, .int .i64 0, .int .i64 0, .slice none 0 0] 106 (0, 0)) := by rw [e1]; exact blk_only h9_14 (only8 _ _ _ _ _ _ _ _ _ _) (by omega)
            rw [← e1]
            have E1 := Lib.hid e1
            clear e1
            obtain ⟨n0, n1, n2, n3, n4, n5, n6, n7⟩ := cl8 k9
            obtain ⟨m0, m1, m2, m3, m4, m5, m6, m7⟩ := fz8 k9
            refine last_ (i := 11) (N := none) #[true, true, true, true, true, true, true, true, true, true, true, true] rfl rfl (by kernel_rfl) (by decide) (fun K hK => ?_)
            go_simp
            refine hK.out _ _ ?_
            clear hK K
            obtain ⟨x2, e2⟩ : ∃ x2, x2 = ((((((((x1.setCell ⟨v1.heap.size, 0, none⟩ (.int .i64 ac.1.kind)).setCell ⟨v1.heap.size, 1, none⟩ (.int .i64 ac.1.who)).setCell ⟨v1.heap.size, 2, none⟩ (.int .i64 ac.1.at_)).setCell ⟨v1.heap.size, 3, none⟩ (.int .u64 ac.1.mask)).setCell ⟨v1.heap.size, 4, none⟩ (.int .i64 ac.1.r.kd)).setCell ⟨v1.heap.size, 5, none⟩ (.int .i64 ac.1.r.off)).setCell ⟨v1.heap.size, 6, none⟩ (.int .i64 ac.1.r.len)).setCell ⟨v1.heap.size, 7, none⟩ (.slice A13_ ac.1.r.data.length d13_)) := ⟨_, rfl⟩
            rw [← e2]
            have tw := two_end (by omega) h8_14 h9_14 r13_14 r14_14 (fun k h1 h2 he => by rcases he with he | he <;> omega) (fun k h1 h2 he => by rcases he with he | he <;> omega) E1.out e2
            have hB9 := ti_far2 hB14 tw.2 (by omega) (by omega)
            refine done_ (by kernel_rfl) ?_
            go_wp2
            go_meet
            case rel => exact ⟨_, _, rfl, rfl, Lib.hid tw.1, Lib.hid hB9⟩
          · go_simp
            have hB15 := ti_alloc hB12 (.cells #[.int .i64 0, .int .i64 0, .int .i64 0, .int .u64 0, .int .i64 0, .int .i64 0, .int .i64 0, .slice none 0 0] 106)
            have h8_15 := new_at v12 (.cells #[.int .i64 0, .int .i64 0, .int .i64 0, .int .u64 0, .int .i64 0, .int .i64 0, .int .i64 0, .slice none 0 0] 106)
            have hz15 := Nat.le_of_eq (World.size_alloc v12 (.cells #[.int .i64 0, .int .i64 0, .int .i64 0, .int .u64 0, .int .i64 0, .int .i64 0, .int .i64 0, .slice none 0 0] 106))
            have hy15 := Nat.le_of_eq (World.size_alloc v12 (.cells #[.int .i64 0, .int .i64 0, .int .i64 0, .int .u64 0, .int .i64 0, .int .i64 0, .int .i64 0, .slice none 0 0] 106)).symm
            have hl15 := ti_lt hB12
            have h9_15 := old_at h9_12 (.cells #[.int .i64 0, .int .i64 0, .int .i64 0, .int .u64 0, .int .i64 0, .int .i64 0, .int .i64 0, .slice none 0 0] 106)
            have r13_15 := rd_below r13_12 (bl_all (Below.refl v12.heap.size v12) (.cells #[.int .i64 0, .int .i64 0, .int .i64 0, .int .u64 0, .int .i64 0, .int .i64 0, .int .i64 0, .slice none 0 0] 106))
            generalize v12.alloc (.cells #[.int .i64 0, .int .i64 0, .int .i64 0, .int .u64 0, .int .i64 0, .int .i64 0, .int .i64 0, .slice none 0 0] 106) = v15 at hB15 hz15 hy15 h8_15 h9_15 r13_15 ⊢
            refine hK.out _ _ (ti_cw hB15) (fun hHeld => ?_)
            clear hK K
            refine one_ (i := 7) (N := some 64) #[true, true, true, true, true, true, true, true, true, true, false, false] rfl rfl (by kernel_rfl) (by decide) (fun K hK => ?_)
            refine goes_ Try.func51 (by kernel_rfl) rfl #[.pointer (some ⟨g, 0, none⟩), Cf c0 c1 c2 c3 c4, W8 a0 a1 a2 a3 a4 a5 a6 a7] (by rfl) rfl rfl (by (try simp only [List.map_toArray, List.map_cons, List.map_nil]); first | done | rfl) ?_
            refine (AC.out _ (ti_dp hB15)).mono ?_
            rintro e v16 ⟨u16, rfl, hr, hd, ho⟩
            obtain ⟨A16_, d16_, rfl⟩ := Kd.R_slice hr
            have hB16 := ti_prog hB15 hd ho
            have hz16 := ho.size
            have hl16 := ti_lt hB15
            have h8_16 := blk_only h8_15 ho (by omega)
            have h9_16 := blk_only h9_15 ho (by omega)
            have r13_16 := rd_only r13_15 ho (fun k h1 h2 he => by omega)
            have r14_16 := rd_mk hr ho.size
            clear hr hd ho
            refine ⟨_, rfl, ?_⟩
            refine hK.out _ _ (ti_cw hB16) (fun hHeld => ?_)
            clear hK K
            refine norm_ (a' := ?_) ?_ ?_
            rotate_left
            · show Act.put _ (some 64) _ = _
              simp only [Act.put, List.setIfInBounds_toArray, List.set_cons_zero, List.set_cons_succ]
              rfl
            obtain ⟨n0, n1, n2, n3, n4, n5, n6, n7⟩ := cl8 h8_16
            obtain ⟨m0, m1, m2, m3, m4, m5, m6, m7⟩ := fz8 h8_16
            refine last_ (i := 10) (N := none) #[true, true, true, true, true, true, true, true, true, true, true, false] rfl rfl (by kernel_rfl) (by decide) (fun K hK => ?_)
            go_simp
            refine hK.out _ _ ?_
            clear hK K n0 n1 n2 n3 n4 n5 n6 n7 m0 m1 m2 m3 m4 m5 m6 m7
            obtain ⟨x1, e1⟩ : ∃ x1, x1 = ((((((((v16.setCell ⟨v12.heap.size, 0, none⟩ (.int .i64 ac.1.kind)).setCell ⟨v12.heap.size, 1, none⟩ (.int .i64 ac.1.who)).setCell ⟨v12.heap.size, 2, none⟩ (.int .i64 ac.1.at_)).setCell ⟨v12.heap.size, 3, none⟩ (.int .u64 ac.1.mask)).setCell ⟨v12.heap.size, 4, none⟩ (.int .i64 ac.1.r.kd)).setCell ⟨v12.heap.size, 5, none⟩ (.int .i64 ac.1.r.off)).setCell ⟨v12.heap.size, 6, none⟩ (.int .i64 ac.1.r.len)).setCell ⟨v12.heap.size, 7, none⟩ (.slice A1_ ac.1.r.data.length d1_)) := ⟨_, rfl⟩
            have k9 : x1.heap[v1.heap.size]? = some (.cells #[.int .i64 0, .int .i64 0, .int .i64 0, .int .u64 0, .int .i64 0, .int .i64 0, .int .i64 0, .slice none 0 0] 106 (0, 0)) := by rw [e1]; exact blk_only h9_16 (only8 _ _ _ _ _ _ _ _ _ _) (by omega)
            rw [← e1]
            have E1 := Lib.hid e1
            clear e1
            obtain ⟨n0, n1, n2, n3, n4, n5, n6, n7⟩ := cl8 k9
            obtain ⟨m0, m1, m2, m3, m4, m5, m6, m7⟩ := fz8 k9
            refine last_ (i := 11) (N := none) #[true, true, true, true, true, true, true, true, true, true, true, true] rfl rfl (by kernel_rfl) (by decide) (fun K hK => ?_)
            go_simp
            refine hK.out _ _ ?_
            clear hK K
            obtain ⟨x2, e2⟩ : ∃ x2, x2 = ((((((((x1.setCell ⟨v1.heap.size, 0, none⟩ (.int .i64 ac.1.kind)).setCell ⟨v1.heap.size, 1, none⟩ (.int .i64 ac.1.who)).setCell ⟨v1.heap.size, 2, none⟩ (.int .i64 ac.1.at_)).setCell ⟨v1.heap.size, 3, none⟩ (.int .u64 ac.1.mask)).setCell ⟨v1.heap.size, 4, none⟩ (.int .i64 ac.1.r.kd)).setCell ⟨v1.heap.size, 5, none⟩ (.int .i64 ac.1.r.off)).setCell ⟨v1.heap.size, 6, none⟩ (.int .i64 ac.1.r.len)).setCell ⟨v1.heap.size, 7, none⟩ (.slice A16_ ac.1.r.data.length d16_)) := ⟨_, rfl⟩
            rw [← e2]
            have tw := two_end (by omega) h8_16 h9_16 r13_16 r14_16 (fun k h1 h2 he => by rcases he with he | he <;> omega) (fun k h1 h2 he => by rcases he with he | he <;> omega) E1.out e2
            have hB9 := ti_far2 hB16 tw.2 (by omega) (by omega)
            refine done_ (by kernel_rfl) ?_
            go_wp2
            go_meet
            case rel => exact ⟨_, _, rfl, rfl, Lib.hid tw.1, Lib.hid hB9⟩
      · go_simp
        have hB17 := ti_alloc hB0 (.cells #[.int .i64 0, .int .i64 0, .int .i64 0, .int .u64 0, .int .i64 0, .int .i64 0, .int .i64 0, .slice none 0 0] 106)
        have h8_17 := new_at v0 (.cells #[.int .i64 0, .int .i64 0, .int .i64 0, .int .u64 0, .int .i64 0, .int .i64 0, .int .i64 0, .slice none 0 0] 106)
        have hz17 := Nat.le_of_eq (World.size_alloc v0 (.cells #[.int .i64 0, .int .i64 0, .int .i64 0, .int .u64 0, .int .i64 0, .int .i64 0, .int .i64 0, .slice none 0 0] 106))
        have hy17 := Nat.le_of_eq (World.size_alloc v0 (.cells #[.int .i64 0, .int .i64 0, .int .i64 0, .int .u64 0, .int .i64 0, .int .i64 0, .int .i64 0, .slice none 0 0] 106)).symm
        have hl17 := ti_lt hB0
        generalize v0.alloc (.cells #[.int .i64 0, .int .i64 0, .int .i64 0, .int .u64 0, .int .i64 0, .int .i64 0, .int .i64 0, .slice none 0 0] 106) = v17 at hB17 hz17 hy17 h8_17 ⊢
        refine hK.out _ _ (ti_cw hB17) (fun hHeld => ?_)
        clear hK K
        refine two_ (i := 3) (j := 9) (Ni := some 60) (Nj := some 14) #[true, true, true, true, true, true, true, false, true, false, false, false] #[true, true, true, false, true, true, true, false, true, true, false, false] rfl rfl rfl rfl (by kernel_rfl) (by decide) (by decide) (fun K hK => ?_) (fun K hK => ?_)
        · refine goes_ Try.func50 (by kernel_rfl) rfl #[.pointer (some ⟨g + 1, 0, none⟩), Cf c0 c1 c2 c3 c4, W8 a0 a1 a2 a3 a4 a5 a6 a7] (by rfl) rfl rfl (by (try simp only [List.map_toArray, List.map_cons, List.map_nil]); first | done | rfl) ?_
          refine (AR.out _ (ti_dr hB17)).mono ?_
          rintro e v18 ⟨u18, rfl, hr, hd, ho⟩
          obtain ⟨A18_, d18_, rfl⟩ := Kd.R_slice hr
          have hB18 := ti_ref hB17 hd ho
          have hz18 := ho.size
          have hl18 := ti_lt hB17
          have h8_18 := blk_only h8_17 ho (by omega)
          have r13_18 := rd_mk hr ho.size
          clear hr hd ho
          refine ⟨_, rfl, ?_⟩
          refine hK.out _ _ (ti_cw hB18) (fun hHeld => ?_)
          clear hK K
          refine norm_ (a' := ?_) ?_ ?_
          rotate_left
          · show Act.put _ (some 60) _ = _
            simp only [Act.put, List.setIfInBounds_toArray, List.set_cons_zero, List.set_cons_succ]
            rfl
          refine two_ (i := 7) (j := 9) (Ni := some 64) (Nj := some 14) #[true, true, true, true, true, true, true, true, true, false, false, false] #[true, true, true, true, true, true, true, false, true, true, false, false] rfl rfl rfl rfl (by kernel_rfl) (by decide) (by decide) (fun K hK => ?_) (fun K hK => ?_)
          · refine goes_ Try.func51 (by kernel_rfl) rfl #[.pointer (some ⟨g, 0, none⟩), Cf c0 c1 c2 c3 c4, W8 a0 a1 a2 a3 a4 a5 a6 a7] (by rfl) rfl rfl (by (try simp only [List.map_toArray, List.map_cons, List.map_nil]); first | done | rfl) ?_
            refine (AC.out _ (ti_dp hB18)).mono ?_
            rintro e v19 ⟨u19, rfl, hr, hd, ho⟩
            obtain ⟨A19_, d19_, rfl⟩ := Kd.R_slice hr
            have hB19 := ti_prog hB18 hd ho
            have hz19 := ho.size
            have hl19 := ti_lt hB18
            have h8_19 := blk_only h8_18 ho (by omega)
            have r13_19 := rd_only r13_18 ho (fun k h1 h2 he => by omega)
            have r14_19 := rd_mk hr ho.size
            clear hr hd ho
            refine ⟨_, rfl, ?_⟩
            refine hK.out _ _ (ti_cw hB19) (fun hHeld => ?_)
            clear hK K
            refine norm_ (a' := ?_) ?_ ?_
            rotate_left
            · show Act.put _ (some 64) _ = _
              simp only [Act.put, List.setIfInBounds_toArray, List.set_cons_zero, List.set_cons_succ]
              rfl
            refine one_ (i := 9) (N := some 14) #[true, true, true, true, true, true, true, true, true, true, false, false] rfl rfl (by kernel_rfl) (by decide) (fun K hK => ?_)
            go_simp
            have hB20 := ti_alloc hB19 (.cells #[.int .i64 0, .int .i64 0, .int .i64 0, .int .u64 0, .int .i64 0, .int .i64 0, .int .i64 0, .slice none 0 0] 106)
            have h9_20 := new_at v19 (.cells #[.int .i64 0, .int .i64 0, .int .i64 0, .int .u64 0, .int .i64 0, .int .i64 0, .int .i64 0, .slice none 0 0] 106)
            have hz20 := Nat.le_of_eq (World.size_alloc v19 (.cells #[.int .i64 0, .int .i64 0, .int .i64 0, .int .u64 0, .int .i64 0, .int .i64 0, .int .i64 0, .slice none 0 0] 106))
            have hy20 := Nat.le_of_eq (World.size_alloc v19 (.cells #[.int .i64 0, .int .i64 0, .int .i64 0, .int .u64 0, .int .i64 0, .int .i64 0, .int .i64 0, .slice none 0 0] 106)).symm
            have hl20 := ti_lt hB19
            have h8_20 := old_at h8_19 (.cells #[.int .i64 0, .int .i64 0, .int .i64 0, .int .u64 0, .int .i64 0, .int .i64 0, .int .i64 0, .slice none 0 0] 106)
            have r13_20 := rd_below r13_19 (bl_all (Below.refl v19.heap.size v19) (.cells #[.int .i64 0, .int .i64 0, .int .i64 0, .int .u64 0, .int .i64 0, .int .i64 0, .int .i64 0, .slice none 0 0] 106))
            have r14_20 := rd_below r14_19 (bl_all (Below.refl v19.heap.size v19) (.cells #[.int .i64 0, .int .i64 0, .int .i64 0, .int .u64 0, .int .i64 0, .int .i64 0, .int .i64 0, .slice none 0 0] 106))
            generalize v19.alloc (.cells #[.int .i64 0, .int .i64 0, .int .i64 0, .int .u64 0, .int .i64 0, .int .i64 0, .int .i64 0, .slice none 0 0] 106) = v20 at hB20 hz20 hy20 h8_20 h9_20 r13_20 r14_20 ⊢
            refine hK.out _ _ (ti_cw hB20) (fun hHeld => ?_)
            clear hK K
            obtain ⟨n0, n1, n2, n3, n4, n5, n6, n7⟩ := cl8 h8_20
            obtain ⟨m0, m1, m2, m3, m4, m5, m6, m7⟩ := fz8 h8_20
            refine last_ (i := 10) (N := none) #[true, true, true, true, true, true, true, true, true, true, true, false] rfl rfl (by kernel_rfl) (by decide) (fun K hK => ?_)
            go_simp
            refine hK.out _ _ ?_
            clear hK K n0 n1 n2 n3 n4 n5 n6 n7 m0 m1 m2 m3 m4 m5 m6 m7
            obtain ⟨x1, e1⟩ : ∃ x1, x1 = ((((((((v20.setCell ⟨v0.heap.size, 0, none⟩ (.int .i64 ac.1.kind)).setCell ⟨v0.heap.size, 1, none⟩ (.int .i64 ac.1.who)).setCell ⟨v0.heap.size, 2, none⟩ (.int .i64 ac.1.at_)).setCell ⟨v0.heap.size, 3, none⟩ (.int .u64 ac.1.mask)).setCell ⟨v0.heap.size, 4, none⟩ (.int .i64 ac.1.r.kd)).setCell ⟨v0.heap.size, 5, none⟩ (.int .i64 ac.1.r.off)).setCell ⟨v0.heap.size, 6, none⟩ (.int .i64 ac.1.r.len)).setCell ⟨v0.heap.size, 7, none⟩ (.slice A18_ ac.1.r.data.length d18_)) := ⟨_, rfl⟩
            have k9 : x1.heap[v19.heap.size]? = some (.cells #[.int .i64 0, .int .i64 0, .int .i64 0, .int .u64 0, .int .i64 0, .int .i64 0, .int .i64 0, .slice none 0 0] 106 (0, 0)) := by rw [e1]; exact blk_only h9_20 (only8 _ _ _ _ _ _ _ _ _ _) (by omega)
            rw [← e1]
            have E1 := Lib.hid e1
            clear e1
            obtain ⟨n0, n1, n2, n3, n4, n5, n6, n7⟩ := cl8 k9
            obtain ⟨m0, m1, m2, m3, m4, m5, m6, m7⟩ := fz8 k9
            refine last_ (i := 11) (N := none) #[true, true, true, true, true, true, true, true, true, true, true, true] rfl rfl (by kernel_rfl) (by decide) (fun K hK => ?_)
            go_simp
            refine hK.out _ _ ?_
            clear hK K
            obtain ⟨x2, e2⟩ : ∃ x2, x2 = ((((((((x1.setCell ⟨v19.heap.size, 0, none⟩ (.int .i64 ac.1.kind)).setCell ⟨v19.heap.size, 1, none⟩ (.int .i64 ac.1.who)).setCell ⟨v19.heap.size, 2, none⟩ (.int .i64 ac.1.at_)).setCell ⟨v19.heap.size, 3, none⟩ (.int .u64 ac.1.mask)).setCell ⟨v19.heap.size, 4, none⟩ (.int .i64 ac.1.r.kd)).setCell ⟨v19.heap.size, 5, none⟩ (.int .i64 ac.1.r.off)).setCell ⟨v19.heap.size, 6, none⟩ (.int .i64 ac.1.r.len)).setCell ⟨v19.heap.size, 7, none⟩ (.slice A19_ ac.1.r.data.length d19_)) := ⟨_, rfl⟩
            rw [← e2]
            have tw := two_end (by omega) h8_20 h9_20 r13_20 r14_20 (fun k h1 h2 he => by rcases he with he | he <;> omega) (fun k h1 h2 he => by rcases he with he | he <;> omega) E1.out e2
            have hB9 := ti_far2 hB20 tw.2 (by omega) (by omega)
            refine done_ (by kernel_rfl) ?_
            go_wp2
            go_meet
            case rel => exact ⟨_, _, rfl, rfl, Lib.hid tw.1, Lib.hid hB9⟩
          · go_simp
            have hB21 := ti_alloc hB18 (.cells #[.int .i64 0, .int .i64 0, .int .i64 0, .int .u64 0, .int .i64 0, .int .i64 0, .int .i64 0, .slice none 0 0] 106)
            have h9_21 := new_at v18 (.cells #[.int .i64 0, .int .i64 0, .int .i64 0, .int .u64 0, .int .i64 0, .int .i64 0, .int .i64 0, .slice none 0 0] 106)
            have hz21 := Nat.le_of_eq (World.size_alloc v18 (.cells #[.int .i64 0, .int .i64 0, .int .i64 0, .int .u64 0, .int .i64 0, .int .i64 0, .int .i64 0, .slice none 0 0] 106))
            have hy21 := Nat.le_of_eq (World.size_alloc v18 (.cells #[.int .i64 0, .int .i64 0, .int .i64 0, .int .u64 0, .int .i64 0, .int .i64 0, .int .i64 0, .slice none 0 0] 106)).symm
            have hl21 := ti_lt hB18
            have h8_21 := old_at h8_18 (.cells #[.int .i64 0, .int .i64 0, .int .i64 0, .int .u64 0, .int .i64 0, .int .i64 0, .int .i64 0, .slice none 0 0] 106)
            have r13_21 := rd_below r13_18 (bl_all (Below.refl v18.heap.size v18) (.cells #[.int .i64 0, .int .i64 0, .int .i64 0, .int .u64 0, .int .i64 0, .int .i64 0, .int .i64 0, .slice none 0 0] 106))
            generalize v18.alloc (.cells #[.int .i64 0, .int .i64 0, .int .i64 0, .int .u64 0, .int .i64 0, .int .i64 0, .int .i64 0, .slice none 0 0] 106) = v21 at hB21 hz21 hy21 h8_21 h9_21 r13_21 ⊢
            refine hK.out _ _ (ti_cw hB21) (fun hHeld => ?_)
            clear hK K
            refine one_ (i := 7) (N := some 64) #[true, true, true, true, true, true, true, true, true, true, false, false] rfl rfl (by kernel_rfl) (by decide) (fun K hK => ?_)
            refine goes_ Try.func51 (by kernel_rfl) rfl #[.pointer (some ⟨g, 0, none⟩), Cf c0 c1 c2 c3 c4, W8 a0 a1 a2 a3 a4 a5 a6 a7] (by rfl) rfl rfl (by (try simp only [List.map_toArray, List.map_cons, List.map_nil]); first | done | rfl) ?_
            refine (AC.out _ (ti_dp hB21)).mono ?_
            rintro e v22 ⟨u22, rfl, hr, hd, ho⟩
            obtain ⟨A22_, d22_, rfl⟩ := Kd.R_slice hr
            have hB22 := ti_prog hB21 hd ho
            have hz22 := ho.size
            have hl22 := ti_lt hB21
            have h8_22 := blk_only h8_21 ho (by omega)
            have h9_22 := blk_only h9_21 ho (by omega)
            have r13_22 := rd_only r13_21 ho (fun k h1 h2 he => by omega)
            have r14_22 := rd_mk hr ho.size
            clear hr hd ho
            refine ⟨_, rfl, ?_⟩
            refine hK.out _ _ (ti_cw hB22) (fun hHeld => ?_)
            clear hK K
            refine norm_ (a' := ?_) ?_ ?_
            rotate_left
            · show Act.put _ (some 64) _ = _
              simp only [Act.put, List.setIfInBounds_toArray, List.set_cons_zero, List.set_cons_succ]
              rfl
            obtain ⟨n0, n1, n2, n3, n4, n5, n6, n7⟩ := cl8 h8_22
            obtain ⟨m0, m1, m2, m3, m4, m5, m6, m7⟩ := fz8 h8_22
            refine last_ (i := 10) (N := none) #[true, true, true, true, true, true, true, true, true, true, true, false] rfl rfl (by kernel_rfl) (by decide) (fun K hK => ?_)
            go_simp
            refine hK.out _ _ ?_
            clear hK K n0 n1 n2 n3 n4 n5 n6 n7 m0 m1 m2 m3 m4 m5 m6 m7
            obtain ⟨x1, e1⟩ : ∃ x1, x1 = ((((((((v22.setCell ⟨v0.heap.size, 0, none⟩ (.int .i64 ac.1.kind)).setCell ⟨v0.heap.size, 1, none⟩ (.int .i64 ac.1.who)).setCell ⟨v0.heap.size, 2, none⟩ (.int .i64 ac.1.at_)).setCell ⟨v0.heap.size, 3, none⟩ (.int .u64 ac.1.mask)).setCell ⟨v0.heap.size, 4, none⟩ (.int .i64 ac.1.r.kd)).setCell ⟨v0.heap.size, 5, none⟩ (.int .i64 ac.1.r.off)).setCell ⟨v0.heap.size, 6, none⟩ (.int .i64 ac.1.r.len)).setCell ⟨v0.heap.size, 7, none⟩ (.slice A18_ ac.1.r.data.length d18_)) := ⟨_, rfl⟩
            have k9 : x1.heap[v18.heap.size]? = some (.cells #[.int .i64 0, .int .i64 0, .int .i64 0, .int .u64 0, .int .i64 0, .int .i64 0, .int .i64 0, .slice none 0 0] 106 (0, 0)) := by rw [e1]; exact blk_only h9_22 (only8 _ _ _ _ _ _ _ _ _ _) (by omega)
            rw [← e1]
            have E1 := Lib.hid e1
            clear e1
            obtain ⟨n0, n1, n2, n3, n4, n5, n6, n7⟩ := cl8 k9
            obtain ⟨m0, m1, m2, m3, m4, m5, m6, m7⟩ := fz8 k9
            refine last_ (i := 11) (N := none) #[true, true, true, true, true, true, true, true, true, true, true, true] rfl rfl (by kernel_rfl) (by decide) (fun K hK => ?_)
            go_simp
            refine hK.out _ _ ?_
            clear hK K
            obtain ⟨x2, e2⟩ : ∃ x2, x2 = ((((((((x1.setCell ⟨v18.heap.size, 0, none⟩ (.int .i64 ac.1.kind)).setCell ⟨v18.heap.size, 1, none⟩ (.int .i64 ac.1.who)).setCell ⟨v18.heap.size, 2, none⟩ (.int .i64 ac.1.at_)).setCell ⟨v18.heap.size, 3, none⟩ (.int .u64 ac.1.mask)).setCell ⟨v18.heap.size, 4, none⟩ (.int .i64 ac.1.r.kd)).setCell ⟨v18.heap.size, 5, none⟩ (.int .i64 ac.1.r.off)).setCell ⟨v18.heap.size, 6, none⟩ (.int .i64 ac.1.r.len)).setCell ⟨v18.heap.size, 7, none⟩ (.slice A22_ ac.1.r.data.length d22_)) := ⟨_, rfl⟩
            rw [← e2]
            have tw := two_end (by omega) h8_22 h9_22 r13_22 r14_22 (fun k h1 h2 he => by rcases he with he | he <;> omega) (fun k h1 h2 he => by rcases he with he | he <;> omega) E1.out e2
            have hB9 := ti_far2 hB22 tw.2 (by omega) (by omega)
            refine done_ (by kernel_rfl) ?_
            go_wp2
            go_meet
            case rel => exact ⟨_, _, rfl, rfl, Lib.hid tw.1, Lib.hid hB9⟩
        · go_simp
          have hB23 := ti_alloc hB17 (.cells #[.int .i64 0, .int .i64 0, .int .i64 0, .int .u64 0, .int .i64 0, .int .i64 0, .int .i64 0, .slice none 0 0] 106)
          have h9_23 := new_at v17 (.cells #[.int .i64 0, .int .i64 0, .int .i64 0, .int .u64 0, .int .i64 0, .int .i64 0, .int .i64 0, .slice none 0 0] 106)
          have hz23 := Nat.le_of_eq (World.size_alloc v17 (.cells #[.int .i64 0, .int .i64 0, .int .i64 0, .int .u64 0, .int .i64 0, .int .i64 0, .int .i64 0, .slice none 0 0] 106))
          have hy23 := Nat.le_of_eq (World.size_alloc v17 (.cells #[.int .i64 0, .int .i64 0, .int .i64 0, .int .u64 0, .int .i64 0, .int .i64 0, .int .i64 0, .slice none 0 0] 106)).symm
          have hl23 := ti_lt hB17
          have h8_23 := old_at h8_17 (.cells #[.int .i64 0, .int .i64 0, .int .i64 0, .int .u64 0, .int .i64 0, .int .i64 0, .int .i64 0, .slice none 0 0] 106)
          generalize v17.alloc (.cells #[.int .i64 0, .int .i64 0, .int .i64 0, .int .u64 0, .int .i64 0, .int .i64 0, .int .i64 0, .slice none 0 0] 106) = v23 at hB23 hz23 hy23 h8_23 h9_23 ⊢
          refine hK.out _ _ (ti_cw hB23) (fun hHeld => ?_)
          clear hK K
          refine one_ (i := 3) (N := some 60) #[true, true, true, true, true, true, true, false, true, true, false, false] rfl rfl (by kernel_rfl) (by decide) (fun K hK => ?_)
          refine goes_ Try.func50 (by kernel_rfl) rfl #[.pointer (some ⟨g + 1, 0, none⟩), Cf c0 c1 c2 c3 c4, W8 a0 a1 a2 a3 a4 a5 a6 a7] (by rfl) rfl rfl (by (try simp only [List.map_toArray, List.map_cons, List.map_nil]); first | done | rfl) ?_
          refine (AR.out _ (ti_dr hB23)).mono ?_
          rintro e v24 ⟨u24, rfl, hr, hd, ho⟩
          obtain ⟨A24_, d24_, rfl⟩ := Kd.R_slice hr
          have hB24 := ti_ref hB23 hd ho
          have hz24 := ho.size
          have hl24 := ti_lt hB23
          have h8_24 := blk_only h8_23 ho (by omega)
          have h9_24 := blk_only h9_23 ho (by omega)
          have r13_24 := rd_mk hr ho.size
          clear hr hd ho
          refine ⟨_, rfl, ?_⟩
          refine hK.out _ _ (ti_cw hB24) (fun hHeld => ?_)
          clear hK K
          refine norm_ (a' := ?_) ?_ ?_
          rotate_left
          · show Act.put _ (some 60) _ = _
            simp only [Act.put, List.setIfInBounds_toArray, List.set_cons_zero, List.set_cons_succ]
            rfl
          refine one_ (i := 7) (N := some 64) #[true, true, true, true, true, true, true, true, true, true, false, false] rfl rfl (by kernel_rfl) (by decide) (fun K hK => ?_)
          refine goes_ Try.func51 (by kernel_rfl) rfl #[.pointer (some ⟨g, 0, none⟩), Cf c0 c1 c2 c3 c4, W8 a0 a1 a2 a3 a4 a5 a6 a7] (by rfl) rfl rfl (by (try simp only [List.map_toArray, List.map_cons, List.map_nil]); first | done | rfl) ?_
          refine (AC.out _ (ti_dp hB24)).mono ?_
          rintro e v25 ⟨u25, rfl, hr, hd, ho⟩
          obtain ⟨A25_, d25_, rfl⟩ := Kd.R_slice hr
          have hB25 := ti_prog hB24 hd ho
          have hz25 := ho.size
          have hl25 := ti_lt hB24
          have h8_25 := blk_only h8_24 ho (by omega)
          have h9_25 := blk_only h9_24 ho (by omega)
          have r13_25 := rd_only r13_24 ho (fun k h1 h2 he => by omega)
          have r14_25 := rd_mk hr ho.size
          clear hr hd ho
          refine ⟨_, rfl, ?_⟩
          refine hK.out _ _ (ti_cw hB25) (fun hHeld => ?_)
          clear hK K
          refine norm_ (a' := ?_) ?_ ?_
          rotate_left
          · show Act.put _ (some 64) _ = _
            simp only [Act.put, List.setIfInBounds_toArray, List.set_cons_zero, List.set_cons_succ]
            rfl
          obtain ⟨n0, n1, n2, n3, n4, n5, n6, n7⟩ := cl8 h8_25
          obtain ⟨m0, m1, m2, m3, m4, m5, m6, m7⟩ := fz8 h8_25
          refine last_ (i := 10) (N := none) #[true, true, true, true, true, true, true, true, true, true, true, false] rfl rfl (by kernel_rfl) (by decide) (fun K hK => ?_)
          go_simp
          refine hK.out _ _ ?_
          clear hK K n0 n1 n2 n3 n4 n5 n6 n7 m0 m1 m2 m3 m4 m5 m6 m7
          obtain ⟨x1, e1⟩ : ∃ x1, x1 = ((((((((v25.setCell ⟨v0.heap.size, 0, none⟩ (.int .i64 ac.1.kind)).setCell ⟨v0.heap.size, 1, none⟩ (.int .i64 ac.1.who)).setCell ⟨v0.heap.size, 2, none⟩ (.int .i64 ac.1.at_)).setCell ⟨v0.heap.size, 3, none⟩ (.int .u64 ac.1.mask)).setCell ⟨v0.heap.size, 4, none⟩ (.int .i64 ac.1.r.kd)).setCell ⟨v0.heap.size, 5, none⟩ (.int .i64 ac.1.r.off)).setCell ⟨v0.heap.size, 6, none⟩ (.int .i64 ac.1.r.len)).setCell ⟨v0.heap.size, 7, none⟩ (.slice A24_ ac.1.r.data.length d24_)) := ⟨_, rfl⟩
          have k9 : x1.heap[v17.heap.size]? = some (.cells #[.int .i64 0, .int .i64 0, .int .i64 0, .int .u64 0, .int .i64 0, .int .i64 0, .int .i64 0, .slice none 0 0] 106 (0, 0)) := by rw [e1]; exact blk_only h9_25 (only8 _ _ _ _ _ _ _ _ _ _) (by omega)
          rw [← e1]
          have E1 := Lib.hid e1
          clear e1
          obtain ⟨n0, n1, n2, n3, n4, n5, n6, n7⟩ := cl8 k9
          obtain ⟨m0, m1, m2, m3, m4, m5, m6, m7⟩ := fz8 k9
          refine last_ (i := 11) (N := none) #[true, true, true, true, true, true, true, true, true, true, true, true] rfl rfl (by kernel_rfl) (by decide) (fun K hK => ?_)
          go_simp
          refine hK.out _ _ ?_
          clear hK K
          obtain ⟨x2, e2⟩ : ∃ x2, x2 = ((((((((x1.setCell ⟨v17.heap.size, 0, none⟩ (.int .i64 ac.1.kind)).setCell ⟨v17.heap.size, 1, none⟩ (.int .i64 ac.1.who)).setCell ⟨v17.heap.size, 2, none⟩ (.int .i64 ac.1.at_)).setCell ⟨v17.heap.size, 3, none⟩ (.int .u64 ac.1.mask)).setCell ⟨v17.heap.size, 4, none⟩ (.int .i64 ac.1.r.kd)).setCell ⟨v17.heap.size, 5, none⟩ (.int .i64 ac.1.r.off)).setCell ⟨v17.heap.size, 6, none⟩ (.int .i64 ac.1.r.len)).setCell ⟨v17.heap.size, 7, none⟩ (.slice A25_ ac.1.r.data.length d25_)) := ⟨_, rfl⟩
          rw [← e2]
          have tw := two_end (by omega) h8_25 h9_25 r13_25 r14_25 (fun k h1 h2 he => by rcases he with he | he <;> omega) (fun k h1 h2 he => by rcases he with he | he <;> omega) E1.out e2
          have hB9 := ti_far2 hB25 tw.2 (by omega) (by omega)
          refine done_ (by kernel_rfl) ?_
          go_wp2
          go_meet
          case rel => exact ⟨_, _, rfl, rfl, Lib.hid tw.1, Lib.hid hB9⟩
      · go_simp
        have hB26 := ti_alloc hB0 (.cells #[.int .i64 0, .int .i64 0, .int .i64 0, .int .u64 0, .int .i64 0, .int .i64 0, .int .i64 0, .slice none 0 0] 106)
        have h9_26 := new_at v0 (.cells #[.int .i64 0, .int .i64 0, .int .i64 0, .int .u64 0, .int .i64 0, .int .i64 0, .int .i64 0, .slice none 0 0] 106)
        have hz26 := Nat.le_of_eq (World.size_alloc v0 (.cells #[.int .i64 0, .int .i64 0, .int .i64 0, .int .u64 0, .int .i64 0, .int .i64 0, .int .i64 0, .slice none 0 0] 106))
        have hy26 := Nat.le_of_eq (World.size_alloc v0 (.cells #[.int .i64 0, .int .i64 0, .int .i64 0, .int .u64 0, .int .i64 0, .int .i64 0, .int .i64 0, .slice none 0 0] 106)).symm
        have hl26 := ti_lt hB0
        generalize v0.alloc (.cells #[.int .i64 0, .int .i64 0, .int .i64 0, .int .u64 0, .int .i64 0, .int .i64 0, .int .i64 0, .slice none 0 0] 106) = v26 at hB26 hz26 hy26 h9_26 ⊢
        refine hK.out _ _ (ti_cw hB26) (fun hHeld => ?_)
        clear hK K
        refine two_ (i := 3) (j := 8) (Ni := some 60) (Nj := some 13) #[true, true, true, true, true, true, true, false, false, true, false, false] #[true, true, true, false, true, true, true, false, true, true, false, false] rfl rfl rfl rfl (by kernel_rfl) (by decide) (by decide) (fun K hK => ?_) (fun K hK => ?_)
        · refine goes_ Try.func50 (by kernel_rfl) rfl #[.pointer (some ⟨g + 1, 0, none⟩), Cf c0 c1 c2 c3 c4, W8 a0 a1 a2 a3 a4 a5 a6 a7] (by rfl) rfl rfl (by (try simp only [List.map_toArray, List.map_cons, List.map_nil]); first | done | rfl) ?_
          refine (AR.out _ (ti_dr hB26)).mono ?_
          rintro e v27 ⟨u27, rfl, hr, hd, ho⟩
          obtain ⟨A27_, d27_, rfl⟩ := Kd.R_slice hr
          have hB27 := ti_ref hB26 hd ho
          have hz27 := ho.size
          have hl27 := ti_lt hB26
          have h9_27 := blk_only h9_26 ho (by omega)
          have r13_27 := rd_mk hr ho.size
          clear hr hd ho
          refine ⟨_, rfl, ?_⟩
          refine hK.out _ _ (ti_cw hB27) (fun hHeld => ?_)
          clear hK K
          refine norm_ (a' := ?_) ?_ ?_
          rotate_left
          · show Act.put _ (some 60) _ = _
            simp only [Act.put, List.setIfInBounds_toArray, List.set_cons_zero, List.set_cons_succ]
            rfl
          refine two_ (i := 7) (j := 8) (Ni := some 64) (Nj := some 13) #[true, true, true, true, true, true, true, true, false, true, false, false] #[true, true, true, true, true, true, true, false, true, true, false, false] rfl rfl rfl rfl (by kernel_rfl) (by decide) (by decide) (fun K hK => ?_) (fun K hK => ?_)
          · refine goes_ Try.func51 (by kernel_rfl) rfl #[.pointer (some ⟨g, 0, none⟩), Cf c0 c1 c2 c3 c4, W8 a0 a1 a2 a3 a4 a5 a6 a7] (by rfl) rfl rfl (by (try simp only [List.map_toArray, List.map_cons, List.map_nil]); first | done | rfl) ?_
            refine (AC.out _ (ti_dp hB27)).mono ?_
            rintro e v28 ⟨u28, rfl, hr, hd, ho⟩
            obtain ⟨A28_, d28_, rfl⟩ := Kd.R_slice hr
            have hB28 := ti_prog hB27 hd ho
            have hz28 := ho.size
            have hl28 := ti_lt hB27
            have h9_28 := blk_only h9_27 ho (by omega)
            have r13_28 := rd_only r13_27 ho (fun k h1 h2 he => by omega)
            have r14_28 := rd_mk hr ho.size
            clear hr hd ho
            refine ⟨_, rfl, ?_⟩
            refine hK.out _ _ (ti_cw hB28) (fun hHeld => ?_)
            clear hK K
            refine norm_ (a' := ?_) ?_ ?_
            rotate_left
            · show Act.put _ (some 64) _ = _
              simp only [Act.put, List.setIfInBounds_toArray, List.set_cons_zero, List.set_cons_succ]
              rfl
            refine one_ (i := 8) (N := some 13) #[true, true, true, true, true, true, true, true, true, true, false, false] rfl rfl (by kernel_rfl) (by decide) (fun K hK => ?_)
            go_simp
            have hB29 := ti_alloc hB28 (.cells #[.int .i64 0, .int .i64 0, .int .i64 0, .int .u64 0, .int .i64 0, .int .i64 0, .int .i64 0, .slice none 0 0] 106)
            have h8_29 := new_at v28 (.cells #[.int .i64 0, .int .i64 0, .int .i64 0, .int .u64 0, .int .i64 0, .int .i64 0, .int .i64 0, .slice none 0 0] 106)
            have hz29 := Nat.le_of_eq (World.size_alloc v28 (.cells #[.int .i64 0, .int .i64 0, .int .i64 0, .int .u64 0, .int .i64 0, .int .i64 0, .int .i64 0, .slice none 0 0] 106))
            have hy29 := Nat.le_of_eq (World.size_alloc v28 (.cells #[.int .i64 0, .int .i64 0, .int .i64 0, .int .u64 0, .int .i64 0, .int .i64 0, .int .i64 0, .slice none 0 0] 106)).symm
            have hl29 := ti_lt hB28
            have h9_29 := old_at h9_28 (.cells #[.int .i64 0, .int .i64 0, .int .i64 0, .int .u64 0, .int .i64 0, .int .i64 0, .int .i64 0, .slice none 0 0] 106)
            have r13_29 := rd_below r13_28 (bl_all (Below.refl v28.heap.size v28) (.cells #[.int .i64 0, .int .i64 0, .int .i64 0, .int .u64 0, .int .i64 0, .int .i64 0, .int .i64 0, .slice none 0 0] 106))
            have r14_29 := rd_below r14_28 (bl_all (Below.refl v28.heap.size v28) (.cells #[.int .i64 0, .int .i64 0, .int .i64 0, .int .u64 0, .int .i64 0, .int .i64 0, .int .i64 0, .slice none 0 0] 106))
            generalize v28.alloc (.cells #[.int .i64 0, .int .i64 0, .int .i64 0, .int .u64 0, .int .i64 0, .int .i64 0, .int .i64 0, .slice none 0 0] 106) = v29 at hB29 hz29 hy29 h8_29 h9_29 r13_29 r14_29 ⊢
            refine hK.out _ _ (ti_cw hB29) (fun hHeld => ?_)
            clear hK K
            obtain ⟨n0, n1, n2, n3, n4, n5, n6, n7⟩ := cl8 h8_29
            obtain ⟨m0, m1, m2, m3, m4, m5, m6, m7⟩ := fz8 h8_29
            refine last_ (i := 10) (N := none) #[true, true, true, true, true, true, true, true, true, true, true, false] rfl rfl (by kernel_rfl) (by decide) (fun K hK => ?_)
            go_simp
            refine hK.out _ _ ?_
            clear hK K n0 n1 n2 n3 n4 n5 n6 n7 m0 m1 m2 m3 m4 m5 m6 m7
            obtain ⟨x1, e1⟩ : ∃ x1, x1 = ((((((((v29.setCell ⟨v28.heap.size, 0, none⟩ (.int .i64 ac.1.kind)).setCell ⟨v28.heap.size, 1, none⟩ (.int .i64 ac.1.who)).setCell ⟨v28.heap.size, 2, none⟩ (.int .i64 ac.1.at_)).setCell ⟨v28.heap.size, 3, none⟩ (.int .u64 ac.1.mask)).setCell ⟨v28.heap.size, 4, none⟩ (.int .i64 ac.1.r.kd)).setCell ⟨v28.heap.size, 5, none⟩ (.int .i64 ac.1.r.off)).setCell ⟨v28.heap.size, 6, none⟩ (.int .i64 ac.1.r.len)).setCell ⟨v28.heap.size, 7, none⟩ (.slice A27_ ac.1.r.data.length d27_)) := ⟨_, rfl⟩
            have k9 : x1.heap[v0.heap.size]? = some (.cells #[.int .i64 0, .int .i64 0, .int .i64 0, .int .u64 0, .int .i64 0, .int .i64 0, .int .i64 0, .slice none 0 0] 106 (0, 0)) := by rw [e1]; exact blk_only h9_29 (only8 _ _ _ _ _ _ _ _ _ _) (by omega)
            rw [← e1]
            have E1 := Lib.hid e1
            clear e1
            obtain ⟨n0, n1, n2, n3, n4, n5, n6, n7⟩ := cl8 k9
            obtain ⟨m0, m1, m2, m3, m4, m5, m6, m7⟩ := fz8 k9
            refine last_ (i := 11) (N := none) #[true, true, true, true, true, true, true, true, true, true, true, true] rfl rfl (by kernel_rfl) (by decide) (fun K hK => ?_)
            go_simp
            refine hK.out _ _ ?_
            clear hK K
            obtain ⟨x2, e2⟩ : ∃ x2, x2 = ((((((((x1.setCell ⟨v0.heap.size, 0, none⟩ (.int .i64 ac.1.kind)).setCell ⟨v0.heap.size, 1, none⟩ (.int .i64 ac.1.who)).setCell ⟨v0.heap.size, 2, none⟩ (.int .i64 ac.1.at_)).setCell ⟨v0.heap.size, 3, none⟩ (.int .u64 ac.1.mask)).setCell ⟨v0.heap.size, 4, none⟩ (.int .i64 ac.1.r.kd)).setCell ⟨v0.heap.size, 5, none⟩ (.int .i64 ac.1.r.off)).setCell ⟨v0.heap.size, 6, none⟩ (.int .i64 ac.1.r.len)).setCell ⟨v0.heap.size, 7, none⟩ (.slice A28_ ac.1.r.data.length d28_)) := ⟨_, rfl⟩
            rw [← e2]
            have tw := two_end (by omega) h8_29 h9_29 r13_29 r14_29 (fun k h1 h2 he => by rcases he with he | he <;> omega) (fun k h1 h2 he => by rcases he with he | he <;> omega) E1.out e2
            have hB9 := ti_far2 hB29 tw.2 (by omega) (by omega)
            refine done_ (by kernel_rfl) ?_
            go_wp2
            go_meet
            case rel => exact ⟨_, _, rfl, rfl, Lib.hid tw.1, Lib.hid hB9⟩
          · go_simp
            have hB30 := ti_alloc hB27 (.cells #[.int .i64 0, .int .i64 0, .int .i64 0, .int .u64 0, .int .i64 0, .int .i64 0, .int .i64 0, .slice none 0 0] 106)
            have h8_30 := new_at v27 (.cells #[.int .i64 0, .int .i64 0, .int .i64 0, .int .u64 0, .int .i64 0, .int .i64 0, .int .i64 0, .slice none 0 0] 106)
            have hz30 := Nat.le_of_eq (World.size_alloc v27 (.cells #[.int .i64 0, .int .i64 0, .int .i64 0, .int .u64 0, .int .i64 0, .int .i64 0, .int .i64 0, .slice none 0 0] 106))
            have hy30 := Nat.le_of_eq (World.size_alloc v27 (.cells #[.int .i64 0, .int .i64 0, .int .i64 0, .int .u64 0, .int .i64 0, .int .i64 0, .int .i64 0, .slice none 0 0] 106)).symm
            have hl30 := ti_lt hB27
            have h9_30 := old_at h9_27 (.cells #[.int .i64 0, .int .i64 0, .int .i64 0, .int .u64 0, .int .i64 0, .int .i64 0, .int .i64 0, .slice none 0 0] 106)
            have r13_30 := rd_below r13_27 (bl_all (Below.refl v27.heap.size v27) (.cells #[.int .i64 0, .int .i64 0, .int .i64 0, .int .u64 0, .int .i64 0, .int .i64 0, .int .i64 0, .slice none 0 0] 106))
            generalize v27.alloc (.cells #[.int .i64 0, .int .i64 0, .int .i64 0, .int .u64 0, .int .i64 0, .int .i64 0, .int .i64 0, .slice none 0 0] 106) = v30 at hB30 hz30 hy30 h8_30 h9_30 r13_30 ⊢
            refine hK.out _ _ (ti_cw hB30) (fun hHeld => ?_)
            clear hK K
            refine one_ (i := 7) (N := some 64) #[true, true, true, true, true, true, true, true, true, true, false, false] rfl rfl (by kernel_rfl) (by decide) (fun K hK => ?_)
            refine goes_ Try.func51 (by kernel_rfl) rfl #[.pointer (some ⟨g, 0, none⟩), Cf c0 c1 c2 c3 c4, W8 a0 a1 a2 a3 a4 a5 a6 a7] (by rfl) rfl rfl (by (try simp only [List.map_toArray, List.map_cons, List.map_nil]); first | done | rfl) ?_
            refine (AC.out _ (ti_dp hB30)).mono ?_
            rintro e v31 ⟨u31, rfl, hr, hd, ho⟩
            obtain ⟨A31_, d31_, rfl⟩ := Kd.R_slice hr
            have hB31 := ti_prog hB30 hd ho
            have hz31 := ho.size
            have hl31 := ti_lt hB30
            have h8_31 := blk_only h8_30 ho (by omega)
            have h9_31 := blk_only h9_30 ho (by omega)
            have r13_31 := rd_only r13_30 ho (fun k h1 h2 he => by omega)
            have r14_31 := rd_mk hr ho.size
            clear hr hd ho
            refine ⟨_, rfl, ?_⟩
            refine hK.out _ _ (ti_cw hB31) (fun hHeld => ?_)
            clear hK K
            refine norm_ (a' := ?_) ?_ ?_
            rotate_left
            · show Act.put _ (some 64) _ = _
              simp only [Act.put, List.setIfInBounds_toArray, List.set_cons_zero, List.set_cons_succ]
              rfl
            obtain ⟨n0, n1, n2, n3, n4, n5, n6, n7⟩ := cl8 h8_31
            obtain ⟨m0, m1, m2, m3, m4, m5, m6, m7⟩ := fz8 h8_31
            refine last_ (i := 10) (N := none) #[true, true, true, true, true, true, true, true, true, true, true, false] rfl rfl (by kernel_rfl) (by decide) (fun K hK => ?_)
            go_simp
            refine hK.out _ _ ?_
            clear hK K n0 n1 n2 n3 n4 n5 n6 n7 m0 m1 m2 m3 m4 m5 m6 m7
            obtain ⟨x1, e1⟩ : ∃ x1, x1 = ((((((((v31.setCell ⟨v27.heap.size, 0, none⟩ (.int .i64 ac.1.kind)).setCell ⟨v27.heap.size, 1, none⟩ (.int .i64 ac.1.who)).setCell ⟨v27.heap.size, 2, none⟩ (.int .i64 ac.1.at_)).setCell ⟨v27.heap.size, 3, none⟩ (.int .u64 ac.1.mask)).setCell ⟨v27.heap.size, 4, none⟩ (.int .i64 ac.1.r.kd)).setCell ⟨v27.heap.size, 5, none⟩ (.int .i64 ac.1.r.off)).setCell ⟨v27.heap.size, 6, none⟩ (.int .i64 ac.1.r.len)).setCell ⟨v27.heap.size, 7, none⟩ (.slice A27_ ac.1.r.data.length d27_)) := ⟨_, rfl⟩
            have k9 : x1.heap[v0.heap.size]? = some (.cells #[.int .i64 0, .int .i64 0, .int .i64 0, .int .u64 0, .int .i64 0, .int .i64 0, .int .i64 0, .slice none 0 0] 106 (0, 0)) := by rw [e1]; exact blk_only h9_31 (only8 _ _ _ _ _ _ _ _ _ _) (by omega)
            rw [← e1]
            have E1 := Lib.hid e1
            clear e1
            obtain ⟨n0, n1, n2, n3, n4, n5, n6, n7⟩ := cl8 k9
            obtain ⟨m0, m1, m2, m3, m4, m5, m6, m7⟩ := fz8 k9
            refine last_ (i := 11) (N := none) #[true, true, true, true, true, true, true, true, true, true, true, true] rfl rfl (by kernel_rfl) (by decide) (fun K hK => ?_)
            go_simp
            refine hK.out _ _ ?_
            clear hK K
            obtain ⟨x2, e2⟩ : ∃ x2, x2 = ((((((((x1.setCell ⟨v0.heap.size, 0, none⟩ (.int .i64 ac.1.kind)).setCell ⟨v0.heap.size, 1, none⟩ (.int .i64 ac.1.who)).setCell ⟨v0.heap.size, 2, none⟩ (.int .i64 ac.1.at_)).setCell ⟨v0.heap.size, 3, none⟩ (.int .u64 ac.1.mask)).setCell ⟨v0.heap.size, 4, none⟩ (.int .i64 ac.1.r.kd)).setCell ⟨v0.heap.size, 5, none⟩ (.int .i64 ac.1.r.off)).setCell ⟨v0.heap.size, 6, none⟩ (.int .i64 ac.1.r.len)).setCell ⟨v0.heap.size, 7, none⟩ (.slice A31_ ac.1.r.data.length d31_)) := ⟨_, rfl⟩
            rw [← e2]
            have tw := two_end (by omega) h8_31 h9_31 r13_31 r14_31 (fun k h1 h2 he => by rcases he with he | he <;> omega) (fun k h1 h2 he => by rcases he with he | he <;> omega) E1.out e2
            have hB9 := ti_far2 hB31 tw.2 (by omega) (by omega)
            refine done_ (by kernel_rfl) ?_
            go_wp2
            go_meet
            case rel => exact ⟨_, _, rfl, rfl, Lib.hid tw.1, Lib.hid hB9⟩
        · go_simp
          have hB32 := ti_alloc hB26 (.cells #[.int .i64 0, .int .i64 0, .int .i64 0, .int .u64 0, .int .i64 0, .int .i64 0, .int .i64 0, .slice none 0 0] 106)
          have h8_32 := new_at v26 (.cells #[.int .i64 0, .int .i64 0, .int .i64 0, .int .u64 0, .int .i64 0, .int .i64 0, .int .i64 0, .slice none 0 0] 106)
          have hz32 := Nat.le_of_eq (World.size_alloc v26 (.cells #[.int .i64 0, .int .i64 0, .int .i64 0, .int .u64 0, .int .i64 0, .int .i64 0, .int .i64 0, .slice none 0 0] 106))
          have hy32 := Nat.le_of_eq (World.size_alloc v26 (.cells #[.int .i64 0, .int .i64 0, .int .i64 0, .int .u64 0, .int .i64 0, .int .i64 0, .int .i64 0, .slice none 0 0] 106)).symm
          have hl32 := ti_lt hB26
          have h9_32 := old_at h9_26 (.cells #[.int .i64 0, .int .i64 0, .int .i64 0, .int .u64 0, .int .i64 0, .int .i64 0, .int .i64 0, .slice none 0 0] 106)
          generalize v26.alloc (.cells #[.int .i64 0, .int .i64 0, .int .i64 0, .int .u64 0, .int .i64 0, .int .i64 0, .int .i64 0, .slice none 0 0] 106) = v32 at hB32 hz32 hy32 h8_32 h9_32 ⊢
          refine hK.out _ _ (ti_cw hB32) (fun hHeld => ?_)
          clear hK K
          refine one_ (i := 3) (N := some 60) #[true, true, true, true, true, true, true, false, true, true, false, false] rfl rfl (by kernel_rfl) (by decide) (fun K hK => ?_)
          refine goes_ Try.func50 (by kernel_rfl) rfl #[.pointer (some ⟨g + 1, 0, none⟩), Cf c0 c1 c2 c3 c4, W8 a0 a1 a2 a3 a4 a5 a6 a7] (by rfl) rfl rfl (by (try simp only [List.map_toArray, List.map_cons, List.map_nil]); first | done | rfl) ?_
          refine (AR.out _ (ti_dr hB32)).mono ?_
          rintro e v33 ⟨u33, rfl, hr, hd, ho⟩
          obtain ⟨A33_, d33_, rfl⟩ := Kd.R_slice hr
          have hB33 := ti_ref hB32 hd ho
          have hz33 := ho.size
          have hl33 := ti_lt hB32
          have h8_33 := blk_only h8_32 ho (by omega)
          have h9_33 := blk_only h9_32 ho (by omega)
          have r13_33 := rd_mk hr ho.size
          clear hr hd ho
          refine ⟨_, rfl, ?_⟩
          refine hK.out _ _ (ti_cw hB33) (fun hHeld => ?_)
          clear hK K
          refine norm_ (a' := ?_) ?_ ?_
          rotate_left
          · show Act.put _ (some 60) _ = _
            simp only [Act.put, List.setIfInBounds_toArray, List.set_cons_zero, List.set_cons_succ]
            rfl
          refine one_ (i := 7) (N := some 64) #[true, true, true, true, true, true, true, true, true, true, false, false] rfl rfl (by kernel_rfl) (by decide) (fun K hK => ?_)
          refine goes_ Try.func51 (by kernel_rfl) rfl #[.pointer (some ⟨g, 0, none⟩), Cf c0 c1 c2 c3 c4, W8 a0 a1 a2 a3 a4 a5 a6 a7] (by rfl) rfl rfl (by (try simp only [List.map_toArray, List.map_cons, List.map_nil]); first | done | rfl) ?_
          refine (AC.out _ (ti_dp hB33)).mono ?_
          rintro e v34 ⟨u34, rfl, hr, hd, ho⟩
          obtain ⟨A34_, d34_, rfl⟩ := Kd.R_slice hr
          have hB34 := ti_prog hB33 hd ho
          have hz34 := ho.size
          have hl34 := ti_lt hB33
          have h8_34 := blk_only h8_33 ho (by omega)
          have h9_34 := blk_only h9_33 ho (by omega)
          have r13_34 := rd_only r13_33 ho (fun k h1 h2 he => by omega)
          have r14_34 := rd_mk hr ho.size
          clear hr hd ho
          refine ⟨_, rfl, ?_⟩
          refine hK.out _ _ (ti_cw hB34) (fun hHeld => ?_)
          clear hK K
          refine norm_ (a' := ?_) ?_ ?_
          rotate_left
          · show Act.put _ (some 64) _ = _
            simp only [Act.put, List.setIfInBounds_toArray, List.set_cons_zero, List.set_cons_succ]
            rfl
          obtain ⟨n0, n1, n2, n3, n4, n5, n6, n7⟩ := cl8 h8_34
          obtain ⟨m0, m1, m2, m3, m4, m5, m6, m7⟩ := fz8 h8_34
          refine last_ (i := 10) (N := none) #[true, true, true, true, true, true, true, true, true, true, true, false] rfl rfl (by kernel_rfl) (by decide) (fun K hK => ?_)
          go_simp
          refine hK.out _ _ ?_
          clear hK K n0 n1 n2 n3 n4 n5 n6 n7 m0 m1 m2 m3 m4 m5 m6 m7
          obtain ⟨x1, e1⟩ : ∃ x1, x1 = ((((((((v34.setCell ⟨v26.heap.size, 0, none⟩ (.int .i64 ac.1.kind)).setCell ⟨v26.heap.size, 1, none⟩ (.int .i64 ac.1.who)).setCell ⟨v26.heap.size, 2, none⟩ (.int .i64 ac.1.at_)).setCell ⟨v26.heap.size, 3, none⟩ (.int .u64 ac.1.mask)).setCell ⟨v26.heap.size, 4, none⟩ (.int .i64 ac.1.r.kd)).setCell ⟨v26.heap.size, 5, none⟩ (.int .i64 ac.1.r.off)).setCell ⟨v26.heap.size, 6, none⟩ (.int .i64 ac.1.r.len)).setCell ⟨v26.heap.size, 7, none⟩ (.slice A33_ ac.1.r.data.length d33_)) := ⟨_, rfl⟩
          have k9 : x1.heap[v0.heap.size]? = some (.cells #[.int .i64 0, .int .i64 0, .int .i64 0, .int .u64 0, .int .i64 0, .int .i64 0, .int .i64 0, .slice none 0 0] 106 (0, 0)) := by rw [e1]; exact blk_only h9_34 (only8 _ _ _ _ _ _ _ _ _ _) (by omega)
          rw [← e1]
          have E1 := Lib.hid e1
          clear e1
          obtain ⟨n0, n1, n2, n3, n4, n5, n6, n7⟩ := cl8 k9
          obtain ⟨m0, m1, m2, m3, m4, m5, m6, m7⟩ := fz8 k9
          refine last_ (i := 11) (N := none) #[true, true, true, true, true, true, true, true, true, true, true, true] rfl rfl (by kernel_rfl) (by decide) (fun K hK => ?_)
          go_simp
          refine hK.out _ _ ?_
          clear hK K
          obtain ⟨x2, e2⟩ : ∃ x2, x2 = ((((((((x1.setCell ⟨v0.heap.size, 0, none⟩ (.int .i64 ac.1.kind)).setCell ⟨v0.heap.size, 1, none⟩ (.int .i64 ac.1.who)).setCell ⟨v0.heap.size, 2, none⟩ (.int .i64 ac.1.at_)).setCell ⟨v0.heap.size, 3, none⟩ (.int .u64 ac.1.mask)).setCell ⟨v0.heap.size, 4, none⟩ (.int .i64 ac.1.r.kd)).setCell ⟨v0.heap.size, 5, none⟩ (.int .i64 ac.1.r.off)).setCell ⟨v0.heap.size, 6, none⟩ (.int .i64 ac.1.r.len)).setCell ⟨v0.heap.size, 7, none⟩ (.slice A34_ ac.1.r.data.length d34_)) := ⟨_, rfl⟩
          rw [← e2]
          have tw := two_end (by omega) h8_34 h9_34 r13_34 r14_34 (fun k h1 h2 he => by rcases he with he | he <;> omega) (fun k h1 h2 he => by rcases he with he | he <;> omega) E1.out e2
          have hB9 := ti_far2 hB34 tw.2 (by omega) (by omega)
          refine done_ (by kernel_rfl) ?_
          go_wp2
          go_meet
          case rel => exact ⟨_, _, rfl, rfl, Lib.hid tw.1, Lib.hid hB9⟩
    case rest =>
      obtain ⟨b, b', rfl, rfl, htwo, hT⟩ := hcut
      obtain ⟨A5, d5, A6, d6, hb, hb', hc5, hc6, hC5, hC6⟩ := htwo.out
      obtain ⟨n0, n1, n2, n3, n4, n5, n6, n7⟩ := cl8 hb
      obtain ⟨m0, m1, m2, m3, m4, m5, m6, m7⟩ := cl8 hb'
      have SM := Lib.hid (same_rq ac.1.r A5 A6 d5 d6 wc hC5 hc5 hC6 hc6)
      clear hb hb' hC5 hC6 hc5 hc6 htwo hA7 AC AR
      go_wp2_with (go_at_call 47; refine SM.out.mono ?_; rintro e w9 ⟨rfl, hb9⟩)
      exact ⟨⟨k + 1, ac.2, by omega, by go_num, Lib.hid hy4, Lib.hid (ti_below hT.out hb9)⟩, by simp [intOf]; omega⟩
end Go.Proofs.Ytoobbolaoldacaa.DiceW
