/-
  Take and Double of package net.
-/
import Derived.Test.YtajpnohhahffbaaNetP
namespace Go.Proofs.Ytajpnohhahffbaa.NetW
open Go.RowKit Go.Proofs.Ytajpnohhahffbaa Go.Proofs.Ytajpnohhahffbaa.RowOwn Go.Proofs.Ytajpnohhahffbaa.CloneB Go.Proofs.YtajpnohhahffbaaW.PrintWords Go.Proofs.YtajpnohhahffbaaW.PrintMore
set_option linter.unusedVariables false
theorem row_head {w : World} {base : Nat} {ok : Nat → Prop} {A : Option Addr} {n c : Nat} {L : List (List Int)} (h : Row K1 45 w base ok (.slice A n c) L) (hp : 0 < L.length) : ∃ g, A = some ⟨g, 0, none⟩ := by
  rcases h with h | ⟨g, c', he, h⟩
  · obtain ⟨_, _, hC⟩ := Kd.R_reads' h
    obtain ⟨ad, rfl, _⟩ := hC.2.2 hp
    obtain ⟨g, rfl⟩ := Kd.R_head h
    exact ⟨g, rfl⟩
  · injection he with he
    exact ⟨g, he⟩
theorem at_code (d i : Int) (L0 L1 : List (List Int)) : (atN d i L0 L1).1 ≠ 0 → (atN d i L0 L1).2 = [] := by
  unfold atN
  split
  · intro _; rfl
  · split
    · intro _; rfl
    · intro h; exact absurd rfl h
theorem at_zero (d i : Int) (L0 L1 : List (List Int)) (h : (atN d i L0 L1).1 = 0) : 0 ≤ i ∧ i < ((dirL d L0 L1).length : Int) ∧ ¬ (d < 0 ∨ 2 ≤ d) := by
  unfold atN at h
  split at h
  · exact absurd h (by simp)
  · split at h
    · exact absurd h (by simp)
    · omega
/-- a made value stays, where elder blocks alone are written -/
theorem made_stays {w w1 w2 : World} {S : Nat → Prop} {v : Value} {b : List Int} (hr : Kd.R KB 5 w1 w.heap.size (fun _ => True) v b) (ho : OnlyS S w1 w2) (hS : ∀ k, S k → k < w.heap.size) : Kd.R KB 5 w2 w.heap.size (fun _ => True) v b :=
  Kd.R_mono (Kd.R_step (Kd.R_bound hr) (fun k hk hlt => ho.block k hlt (fun hs => by have := hS k hs; omega))) (fun _ _ => trivial)
theorem take_step {ops : Array Oper} {o : Oper} {a : Act} {K : Act → World → Prop} {Q : Exit → Act → World → Prop} {E : Prop} {w W : World} {base gr n c k c2 : Nat} {ok0 : Nat → Prop} {A : Option Addr} {L : List (List Int)}
    (hg : o.guard = none) (s x : Operand) (ho : o.op = .call { callee := .builtin .append, args := #[s, x], argTypes := #[58, 58] }) (hs : a.eval s = .slice (some ⟨gr, 0, none⟩) k k) (hx : a.eval x = .slice A (n - (k + 1)) c2) (hn : n = L.length)
    (hA : A = if c = k + 1 then some ⟨gr, 0, none⟩ else some ⟨gr, k + 1, none⟩)
    (HO : Row K1 45 w base ok0 (.slice (some ⟨gr, 0, none⟩) n c) L) (hb : base ≤ w.heap.size) (hW : Below w.heap.size w W) (hk : k < n) (hl : n ≤ 100000)
    (hK : ∀ v1 w1, Row K1 45 w1 base (fun j => ok0 j ∨ w.heap.size ≤ j) v1 (L.eraseIdx k) → W.grownBy w1 none → K (a.put o.dst v1) w1) :
    if Region.wanted o (yielded ops a.tmps) = true then Oper.wp Try.prog o a W K Q else E := by
  subst hn
  have HO' : Row K1 45 W base (fun j => ok0 j ∨ w.heap.size ≤ j) (.slice (some ⟨gr, 0, none⟩) L.length c) L := row_mono (row_step HO (fun k hk hlt => hW.block k hlt)) (fun k hk => .inl hk)
  obtain ⟨A', c', he, hm⟩ := row_made HO'
  injection he with h1 h2 h3
  subst h1
  subst h3
  have hcn : L.length ≤ c := by
    obtain ⟨A'', c'', he, hc, _⟩ := row_reads HO'
    injection he with h1 h2 h3
    subst h3
    exact hc
  have hm2 := made_drop hm (i := k + 1) (by omega) hcn
  have hA2 : A = (if c = k + 1 then (some (⟨gr, 0, none⟩ : Addr)) else (some (⟨gr, 0, none⟩ : Addr)).map (·.add ((k + 1) * K1.sz))) := by
    rw [hA]
    show _ = if c = k + 1 then _ else some (⟨gr, 0 + (k + 1) * 1, none⟩ : Addr)
    rw [Nat.mul_one, Nat.zero_add]
  rw [← hA2] at hm2
  refine cut_append_step (d := K1) (base := base) (xs := L) (g := gr) (c := c) (i := k) (ok := fun j => ok0 j ∨ w.heap.size ≤ j) hg s x 58 45 (.slice none 0 0) 24 ho Try.underlying58 info45 rfl (by decide) (by omega) hs hx HO' (by omega) (made_mono hm2 (fun j hj => ⟨hj.1, fun he => hj.2 (by subst he; rfl)⟩)) ?_ ?_ ?_ ?_
  · intro j hj
    have := hW.size
    exact .inr (by omega)
  · have := hW.size
    omega
  · have : (k + (L.length - (k + 1))) * 24 ≤ 100000 * 24 := Nat.mul_le_mul_right _ (by omega)
    omega
  · intro v1 w1 h1 h2
    rw [← List.eraseIdx_eq_take_drop_succ] at h1
    exact hK v1 w1 h1 h2
set_option maxHeartbeats 1000000 in
set_option maxRecDepth 100000 in
theorem Take_0 (g base : Nat) (i : Int) (L0 L1 : List (List Int)) (S : Nat → Prop) (w : World) (h : NetAt w g base L0 L1 S) (hz : (atN 0 i L0 L1).1 = 0) :
    Calls Try.prog 40 #[.pointer (some ⟨g, 0, none⟩), .int .i64 0, .int .i64 i] w fun e w' => ∃ v, e = .returned (.tuple #[v, .int .i64 0]) ∧ Kd.R KB 5 w' w.heap.size (fun _ => True) v (atN 0 i L0 L1).2 ∧ ∃ S', NetAt w' g base (takeN 0 i L0 L1).2.1 (takeN 0 i L0 L1).2.2 S' ∧ (∀ k, S' k → S k ∨ w.heap.size ≤ k) ∧ OnlyS S w w' := by
  obtain ⟨hi0, hi1, _⟩ := at_zero _ _ _ _ hz
  have AT := Lib.hid (At_c g base 0 i L0 L1 S w h)
  rw [hz] at AT
  rw [show takeN 0 i L0 L1 = (atN 0 i L0 L1, L0.eraseIdx i.toNat, L1) by unfold takeN; rw [if_pos ⟨hz, rfl⟩, if_neg (by omega)]]
  obtain ⟨j, rfl⟩ := Int.eq_ofNat_of_zero_le hi0
  rw [Int.toNat_natCast]
  have hj : j < L0.length := by unfold dirL at hi1; rw [if_pos rfl] at hi1; omega
  clear hi0 hi1 hz
  generalize (atN 0 (j : Int) L0 L1).2 = b at AT
  obtain ⟨v0, v1, ok0, ok1, hh, h0, h1, hS, hb, d0, d1, hl, s0, s1⟩ := h
  obtain ⟨Av, cv, he, hc, hC⟩ := row_reads h0
  obtain ⟨gr, rfl⟩ := row_head (he ▸ h0) (by omega)
  have HH := Lib.hid hh
  have H0 := Lib.hid h0
  have H1 := Lib.hid h1
  have HD := Lib.hid (And.intro d0 d1)
  have HL := Lib.hid hl
  have HS := Lib.hid (And.intro s0 s1)
  have hsm := s0.1
  have hgl := lt_at hh
  have HE := Lib.hid he
  clear hh h0 h1 d0 d1 hl s0 s1 hC he
  go_enter Try.func40, Try.ntmps40
  go_wp2_with fail
  refine AT.out.mono ?_
  rintro e w1 ⟨v, rfl, hr1, hb1⟩
  obtain ⟨A1, c1, rfl⟩ := Kd.R_slice hr1
  have HR1 := Lib.hid hr1
  have HB1 := Lib.hid hb1
  have k1 : w1.cell? ⟨g, 1, none⟩ = some (.slice (some ⟨gr, 0, none⟩) L0.length cv) := by rw [← HE.out]; exact blk_cell (keep_at_all HH.out hb1) 1
  have kf : w1.frozen? ⟨g, 1, none⟩ = false := blk_frozen (keep_at_all HH.out hb1) 1
  clear hr1 hb1
  have q1 : (j : Int) ≤ (cv : Int) := by omega
  have q2 : (j : Int) + 1 ≤ (L0.length : Int) := by omega
  have q3 : (0 : Int) ≤ (j : Int) + 1 := by omega
  have q4 : (0 : Int) ≤ (j : Int) := by omega
  have hwr : IntKind.i64.wrap ((j : Int) + 1) = (j : Int) + 1 := by have h := IntKind.wrap_i64 ((j : Int) + 1); rw [h]; omega
  have hnt : ((j : Int) + 1).toNat = j + 1 := by omega
  go_wp2_with fail
  go_region_law (refine take_step (L := L0) (A := if cv = j + 1 then some ⟨gr, 0, none⟩ else some ⟨gr, j + 1, none⟩) (c2 := cv - (j + 1)) (n := L0.length) (c := cv) (k := j) (gr := gr) (ok0 := ok0) (base := base) (w := w) ?hg (.tmp 32) (.tmp 36) ?ho ?hs ?hx ?hn ?hA ?hO ?hb ?hW ?hk ?hl ?hK; (case hg => rfl); (case ho => rfl); (case hs => simp [Act.eval, Act.put]); (case hx => simp [Act.eval, Act.put]); (case hn => rfl); (case hA => rfl); (case hO => exact (HE.out ▸ H0.out)); (case hb => omega); (case hW => exact (show Below w.heap.size w w1.drew from bl_drew HB1.out 1)); (case hk => exact hj); (case hl => omega); intro v5 w5 hrow5 hgr5; obtain ⟨A5, c5, he5, _, _⟩ := row_reads hrow5; generalize (L0.eraseIdx j).length = n5 at he5; subst he5; have hh5 : w5.heap[g]? = some (.cells #[.bool true, v0, v1] 77 (0, 0)) := keep_at_grown (keep_at_all HH.out (show Below w.heap.size w w1.drew from bl_drew HB1.out 1)) hgr5 (by simp); have hq5 : w5.cell? ⟨g, 1, none⟩ = some (.slice (some ⟨gr, 0, none⟩) L0.length cv) := (by rw [← HE.out]; exact blk_cell hh5 1); have hf5 : w5.frozen? ⟨g, 1, none⟩ = false := blk_frozen hh5 1)
  all_goals go_wp2_with fail
  all_goals go_ret2
  all_goals
    have ho : OnlyS S w1 (w5.setCell ⟨g, 1, none⟩ (.slice A5 n5 c5)) := (((OnlyS.refl S w1).drew).grown hgr5 (by simp)).set _ _ (.inl hS)
    refine ⟨_, rfl, made_stays HR1.out ho (fun k hk => (HL.out k hk).2), ?_⟩
    exact net_put0 HH.out H1.out hS hb HD.out.1 HD.out.2 HL.out HS.out.2 (show Below w.heap.size w w1.drew from bl_drew HB1.out 1) hgr5 (fun k hk => by cases hk) (fun k hk => hk) hrow5 ⟨by have := List.length_eraseIdx_le L0 j; omega, fun x hx => HS.out.1.2 x (List.mem_of_mem_eraseIdx hx)⟩
set_option maxHeartbeats 1000000 in
set_option maxRecDepth 100000 in
theorem Take_1 (g base : Nat) (i : Int) (L0 L1 : List (List Int)) (S : Nat → Prop) (w : World) (h : NetAt w g base L0 L1 S) (hz : (atN 1 i L0 L1).1 = 0) :
    Calls Try.prog 40 #[.pointer (some ⟨g, 0, none⟩), .int .i64 1, .int .i64 i] w fun e w' => ∃ v, e = .returned (.tuple #[v, .int .i64 0]) ∧ Kd.R KB 5 w' w.heap.size (fun _ => True) v (atN 1 i L0 L1).2 ∧ ∃ S', NetAt w' g base (takeN 1 i L0 L1).2.1 (takeN 1 i L0 L1).2.2 S' ∧ (∀ k, S' k → S k ∨ w.heap.size ≤ k) ∧ OnlyS S w w' := by
  obtain ⟨hi0, hi1, _⟩ := at_zero _ _ _ _ hz
  have AT := Lib.hid (At_c g base 1 i L0 L1 S w h)
  rw [hz] at AT
  rw [show takeN 1 i L0 L1 = (atN 1 i L0 L1, L0, L1.eraseIdx i.toNat) by unfold takeN; rw [if_neg (by omega), if_pos ⟨hz, rfl⟩]]
  obtain ⟨j, rfl⟩ := Int.eq_ofNat_of_zero_le hi0
  rw [Int.toNat_natCast]
  have hj : j < L1.length := by unfold dirL at hi1; rw [if_neg (by omega)] at hi1; omega
  clear hi0 hi1 hz
  generalize (atN 1 (j : Int) L0 L1).2 = b at AT
  obtain ⟨v0, v1, ok0, ok1, hh, h0, h1, hS, hb, d0, d1, hl, s0, s1⟩ := h
  obtain ⟨Av, cv, he, hc, hC⟩ := row_reads h1
  obtain ⟨gr, rfl⟩ := row_head (he ▸ h1) (by omega)
  have HH := Lib.hid hh
  have H0 := Lib.hid h0
  have H1 := Lib.hid h1
  have HD := Lib.hid (And.intro d0 d1)
  have HL := Lib.hid hl
  have HS := Lib.hid (And.intro s0 s1)
  have hsm := s1.1
  have hgl := lt_at hh
  have HE := Lib.hid he
  clear hh h0 h1 d0 d1 hl s0 s1 hC he
  go_enter Try.func40, Try.ntmps40
  go_wp2_with fail
  refine AT.out.mono ?_
  rintro e w1 ⟨v, rfl, hr1, hb1⟩
  obtain ⟨A1, c1, rfl⟩ := Kd.R_slice hr1
  have HR1 := Lib.hid hr1
  have HB1 := Lib.hid hb1
  have k1 : w1.cell? ⟨g, 2, none⟩ = some (.slice (some ⟨gr, 0, none⟩) L1.length cv) := by rw [← HE.out]; exact blk_cell (keep_at_all HH.out hb1) 2
  have kf : w1.frozen? ⟨g, 2, none⟩ = false := blk_frozen (keep_at_all HH.out hb1) 2
  clear hr1 hb1
  have q1 : (j : Int) ≤ (cv : Int) := by omega
  have q2 : (j : Int) + 1 ≤ (L1.length : Int) := by omega
  have q3 : (0 : Int) ≤ (j : Int) + 1 := by omega
  have q4 : (0 : Int) ≤ (j : Int) := by omega
  have hwr : IntKind.i64.wrap ((j : Int) + 1) = (j : Int) + 1 := by have h := IntKind.wrap_i64 ((j : Int) + 1); rw [h]; omega
  have hnt : ((j : Int) + 1).toNat = j + 1 := by omega
  go_wp2_with fail
  go_region_law (refine take_step (L := L1) (A := if cv = j + 1 then some ⟨gr, 0, none⟩ else some ⟨gr, j + 1, none⟩) (c2 := cv - (j + 1)) (n := L1.length) (c := cv) (k := j) (gr := gr) (ok0 := ok1) (base := base) (w := w) ?hg (.tmp 32) (.tmp 36) ?ho ?hs ?hx ?hn ?hA ?hO ?hb ?hW ?hk ?hl ?hK; (case hg => rfl); (case ho => rfl); (case hs => simp [Act.eval, Act.put]); (case hx => simp [Act.eval, Act.put]); (case hn => rfl); (case hA => rfl); (case hO => exact (HE.out ▸ H1.out)); (case hb => omega); (case hW => exact (show Below w.heap.size w w1.drew from bl_drew HB1.out 1)); (case hk => exact hj); (case hl => omega); intro v5 w5 hrow5 hgr5; obtain ⟨A5, c5, he5, _, _⟩ := row_reads hrow5; generalize (L1.eraseIdx j).length = n5 at he5; subst he5; have hh5 : w5.heap[g]? = some (.cells #[.bool true, v0, v1] 77 (0, 0)) := keep_at_grown (keep_at_all HH.out (show Below w.heap.size w w1.drew from bl_drew HB1.out 1)) hgr5 (by simp); have hq5 : w5.cell? ⟨g, 2, none⟩ = some (.slice (some ⟨gr, 0, none⟩) L1.length cv) := (by rw [← HE.out]; exact blk_cell hh5 2); have hf5 : w5.frozen? ⟨g, 2, none⟩ = false := blk_frozen hh5 2)
  all_goals go_wp2_with fail
  all_goals go_ret2
  all_goals
    have ho : OnlyS S w1 (w5.setCell ⟨g, 2, none⟩ (.slice A5 n5 c5)) := (((OnlyS.refl S w1).drew).grown hgr5 (by simp)).set _ _ (.inl hS)
    refine ⟨_, rfl, made_stays HR1.out ho (fun k hk => (HL.out k hk).2), ?_⟩
    exact net_put1 HH.out H0.out hS hb HD.out.2 HD.out.1 HL.out HS.out.1 (show Below w.heap.size w w1.drew from bl_drew HB1.out 1) hgr5 (fun k hk => by cases hk) (fun k hk => hk) hrow5 ⟨by have := List.length_eraseIdx_le L1 j; omega, fun x hx => HS.out.2.2 x (List.mem_of_mem_eraseIdx hx)⟩
theorem Take_c (g base : Nat) (d i : Int) (L0 L1 : List (List Int)) (S : Nat → Prop) (w : World) (h : NetAt w g base L0 L1 S) :
    Calls Try.prog 40 #[.pointer (some ⟨g, 0, none⟩), .int .i64 d, .int .i64 i] w fun e w' => ∃ v, e = .returned (.tuple #[v, .int .i64 (atN d i L0 L1).1]) ∧ Kd.R KB 5 w' w.heap.size (fun _ => True) v (atN d i L0 L1).2 ∧ ∃ S', NetAt w' g base (takeN d i L0 L1).2.1 (takeN d i L0 L1).2.2 S' ∧ (∀ k, S' k → S k ∨ w.heap.size ≤ k) ∧ OnlyS S w w' := by
  by_cases hz : (atN d i L0 L1).1 = 0
  · have hd := (at_zero d i L0 L1 hz).2.2
    rw [hz]
    rcases dir_cases d with h2 | rfl | rfl
    · exact absurd h2 hd
    · exact Take_0 g base i L0 L1 S w h hz
    · exact Take_1 g base i L0 L1 S w h hz
  · have AT := Lib.hid (At_c g base d i L0 L1 S w h)
    have HN := Lib.hid h
    rw [show takeN d i L0 L1 = (atN d i L0 L1, L0, L1) by unfold takeN; rw [if_neg (fun h => hz h.1), if_neg (fun h => hz h.1)]]
    rw [at_code d i L0 L1 hz] at AT ⊢
    generalize (atN d i L0 L1).1 = q at AT hz ⊢
    clear h
    go_enter Try.func40, Try.ntmps40
    go_wp2_with fail
    refine AT.out.mono ?_
    rintro e w1 ⟨v, rfl, hr1, hb1⟩
    go_wp2_with fail
    go_ret2
    exact ⟨_, rfl, Kd.R_nil _ _ _ _ _, S, net_below HN.out hb1, fun k hk => .inl hk, OnlyS.of_below hb1⟩
theorem Double_c (g base : Nat) (d i : Int) (L0 L1 : List (List Int)) (S : Nat → Prop) (w : World) (h : NetAt w g base L0 L1 S) :
    Calls Try.prog 42 #[.pointer (some ⟨g, 0, none⟩), .int .i64 d, .int .i64 i] w fun e w' => e = .returned (.int .i64 (doubleN d i L0 L1).1) ∧ ∃ S', NetAt w' g base (doubleN d i L0 L1).2.1 (doubleN d i L0 L1).2.2 S' ∧ (∀ k, S' k → S k ∨ w.heap.size ≤ k) ∧ OnlyS S w w' := by
  have AT := Lib.hid (At_c g base d i L0 L1 S w h)
  have HN := Lib.hid h
  by_cases hz : (atN d i L0 L1).1 = 0
  · rw [show doubleN d i L0 L1 = putN d (atN d i L0 L1).2 L0 L1 by unfold doubleN; rw [if_pos hz]]
    have hsm : (atN d i L0 L1).2.length ≤ 300 := by
      obtain ⟨h0, h1, h2⟩ := at_zero d i L0 L1 hz
      unfold atN
      rw [if_neg h2, if_neg (by omega)]
      obtain ⟨_, _, _, _, _, _, _, _, _, _, _, _, s0, s1⟩ := h
      have hm : ∀ L : List (List Int), small L → i.toNat < L.length → (L.getD i.toNat []).length ≤ 300 := fun L hs hl => by
        rw [List.getD_eq_getElem?_getD, List.getElem?_eq_getElem hl]
        exact hs.2 _ (List.getElem_mem _)
      have h1' : i.toNat < (dirL d L0 L1).length := by omega
      unfold dirL at h1' ⊢
      split
      · rename_i hd; rw [if_pos hd] at h1'; exact hm _ s0 h1'
      · rename_i hd; rw [if_neg hd] at h1'; exact hm _ s1 h1'
    rw [hz] at AT
    have PT := Lib.hid (fun A c u (hu : NetAt u g base L0 L1 S) (hr : Kd.C KB u A (atN d i L0 L1).2.length (atN d i L0 L1).2) => Put_c g base d L0 L1 S A c _ u hu hsm hr)
    clear hsm hz h
    generalize (atN d i L0 L1).2 = b at AT PT ⊢
    generalize putN d b L0 L1 = P at PT ⊢
    go_enter Try.func42, Try.ntmps42
    go_wp2_with fail
    refine AT.out.mono ?_
    rintro e w1 ⟨v, rfl, hr1, hb1⟩
    obtain ⟨A1, c1, rfl, _, hC1⟩ := Kd.R_reads hr1
    go_wp2_with fail
    refine (PT.out _ _ _ (net_below HN.out hb1) hC1).mono ?_
    rintro e w2 ⟨rfl, S', hN', hS', ho'⟩
    go_wp2_with fail
    go_ret
    exact ⟨rfl, S', hN', fun k hk => (hS' k hk).imp id (fun h => Nat.le_trans hb1.size h), (OnlyS.of_below hb1).trans ho' (fun k hk => .inl hk)⟩
  · rw [show doubleN d i L0 L1 = ((atN d i L0 L1).1, L0, L1) by unfold doubleN; rw [if_neg hz]]
    generalize (atN d i L0 L1).1 = q at AT hz ⊢
    clear h
    go_enter Try.func42, Try.ntmps42
    go_wp2_with fail
    refine AT.out.mono ?_
    rintro e w1 ⟨v, rfl, hr1, hb1⟩
    go_wp2_with fail
    go_ret
    exact ⟨rfl, S, net_below HN.out hb1, fun k hk => .inl hk, OnlyS.of_below hb1⟩
end Go.Proofs.Ytajpnohhahffbaa.NetW
