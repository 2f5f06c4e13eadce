/-
  Put, Take and Double of the reference's net.
-/
import Derived.Test.YtajpnohhahffbaaRNetC
namespace Go.Proofs.Ytajpnohhahffbaa.NetW
open Go.RowKit Go.Proofs.Ytajpnohhahffbaa Go.Proofs.Ytajpnohhahffbaa.RowOwn Go.Proofs.Ytajpnohhahffbaa.CloneB Go.Proofs.YtajpnohhahffbaaW.PrintWords Go.Proofs.YtajpnohhahffbaaW.PrintMore
set_option linter.unusedVariables false
set_option maxHeartbeats 4000000 in
set_option maxRecDepth 100000 in
theorem RPut_0 (g base : Nat) (L0 L1 : List (List Int)) (S : Nat → Prop) (A : Option Addr) (c : Nat) (b : List Int) (w : World) (h : RNetAt w g base L0 L1 S) (hbl : b.length ≤ 300) (hr : Kd.C KB w A b.length b) :
    Calls Try.prog 39 #[.pointer (some ⟨g, 0, none⟩), .int .i64 0, .slice A b.length c] w fun e w' => e = .returned (.int .i64 (putN 0 b L0 L1).1) ∧ ∃ S', RNetAt w' g base (putN 0 b L0 L1).2.1 (putN 0 b L0 L1).2.2 S' ∧ (∀ k, S' k → S k ∨ w.heap.size ≤ k) ∧ OnlyS S w w' := by
  have HN := Lib.hid h
  obtain ⟨v0, v1, ok0, ok1, hh, h0, h1, hS, hb, d0, d1, hl, s0, s1⟩ := h
  obtain ⟨Av, cv, he, hc, hC⟩ := row_reads h0
  have k1 : w.cell? ⟨g, 0, none⟩ = some (.slice Av L0.length cv) := by rw [← he]; exact blk_cell hh 0
  have kf : w.frozen? ⟨g, 0, none⟩ = false := blk_frozen hh 0
  have HH := Lib.hid hh
  have H0 := Lib.hid h0
  have H1 := Lib.hid h1
  have HD := Lib.hid (And.intro d0 d1)
  have HL := Lib.hid hl
  have HS := Lib.hid (And.intro s0 s1)
  have hsm := s0.1
  have hgl := lt_at hh
  have HE := Lib.hid he
  clear hh h0 h1 d0 d1 hl s0 s1 hC he
  by_cases hf : 4096 ≤ L0.length
  · rw [show putN 0 b L0 L1 = (12, L0, L1) by unfold putN dirL; rw [if_neg (by omega)]; rw [if_pos rfl, if_pos hf]]
    have hf' : (4096 : Int) ≤ (L0.length : Int) := by omega
    clear hf
    go_enter Try.func39, Try.ntmps39
    go_wp2_with fail
    go_ret
    exact ⟨rfl, S, HN.out, fun k hk => .inl hk, OnlyS.refl _ _⟩
  · rw [show putN 0 b L0 L1 = (0, L0 ++ [b], L1) by unfold putN dirL; rw [if_neg (by omega)]; rw [if_pos rfl, if_neg hf, if_pos rfl, if_pos rfl]]
    have hf' : ¬ (4096 : Int) ≤ (L0.length : Int) := by omega
    have HR := Lib.hid hr
    have kd2 : ∀ o, (w.alloc o).cell? ⟨g, 0, none⟩ = some (.slice Av L0.length cv) := fun o => by rw [← HE.out]; exact blk_cell (old_at HH.out o) 0
    have kd : ∀ o, (w.drew.alloc o).cell? ⟨g, 0, none⟩ = some (.slice Av L0.length cv) := fun o => by rw [← HE.out]; exact blk_cell (old_at (w := w.drew) HH.out o) 0
    clear hr
    go_enter Try.func39, Try.ntmps39
    go_wp2_with fail
    go_region_law (first
      | (refine Kd.R_append_rows_step (Kd.int .u8) (w0 := w) w.heap.size ?hw (.tmp 29) (.tmp 30) 45 5 (.int .u8 0) 1 ?ho Try.underlying45 info_u8 rfl (by decide) (by omega) (.slice (some ⟨w.heap.size, 0, none⟩) 0 0) [] b A b.length c (fun _ => True) (fun _ => False) ?hs ?hx ?aO ?aR (fun _ _ h => h) (fun _ h => h.elim) ?aF ?aB ?aS ?aL ?_; (case hw => simp [Region.wanted]); (case ho => rfl); (case hs => rfl); (case hx => rfl); (case aO => first | exact empty_R (Kd.int .u8) 5 w.drew (fun _ => True) w.heap.size (Nat.le_refl _) trivial | exact Kd.R_drew (empty_R (Kd.int .u8) 5 w.drew (fun _ => True) w.heap.size (Nat.le_refl _) trivial) | exact Kd.R_drew (empty_R (Kd.int .u8) 5 w (fun _ => True) w.heap.size (Nat.le_refl _) trivial)); (case aR => first | exact Kd.C_alloc (Kd.C_drew HR.out) _ | exact Kd.C_drew (Kd.C_alloc (Kd.C_drew HR.out) _) | exact Kd.C_drew (Kd.C_alloc HR.out _)); (case aF => exact fun _ _ => trivial); (case aB => first | exact bl_drew (bl_all (w := w) (bl_drew (Below.refl _ _) 1) _) 1 | exact bl_drew (bl_all (w := w) (Below.refl _ _) _) 1 | exact bl_all (w := w) (bl_drew (Below.refl _ _) 1) _); (case aS => first | (show w.heap.size ≤ (w.drew.alloc _).drew.heap.size; exact (show w.heap.size ≤ (w.drew.alloc _).heap.size by rw [World.size_alloc]; exact Nat.le_succ _)) | (show w.heap.size ≤ (w.alloc _).heap.size; rw [World.size_alloc]; exact Nat.le_succ _) | (show w.heap.size ≤ (w.drew.alloc _).heap.size; rw [World.size_alloc]; exact Nat.le_succ _)); (case aL => simp; omega); intro v3 w3 hr3 hbw _ _; rw [List.nil_append] at hr3; obtain ⟨A3, c3, rfl⟩ := Kd.R_slice hr3; have hq3 : w3.cell? ⟨g, 0, none⟩ = some (.slice Av L0.length cv) := (by rw [← HE.out]; exact blk_cell (keep_at_all HH.out hbw) 0); have hqa : ∀ o, (w3.alloc o).cell? ⟨g, 0, none⟩ = some (.slice Av L0.length cv) := fun o => (by rw [← HE.out]; exact blk_cell (old_at (keep_at_all HH.out hbw) o) 0))
      | (refine put_step (v0 := .slice Av L0.length cv) rfl (.tmp 28) (.tmp 32) rfl rfl rfl (HE.out ▸ H0.out) (fun k hk => (HL.out k (HD.out.1 k hk).1).2) (by omega) hr3 hbw (by omega) ?_; intro v5 w5 hrow5 hgr5; obtain ⟨A5, c5, rfl, _, _⟩ := row_reads hrow5; have hh5 : w5.heap[g]? = some (.cells #[v0, v1] 61 (0, 0)) := keep_at_grown (old_at (keep_at_all HH.out hbw) _) hgr5 (fun he => (HD.out.1 g (row_own (HE.out ▸ H0.out) g he.symm)).2.1 rfl); have hq5 : w5.cell? ⟨g, 0, none⟩ = some (.slice Av L0.length cv) := (by rw [← HE.out]; exact blk_cell hh5 0); have hf5 : w5.frozen? ⟨g, 0, none⟩ = false := blk_frozen hh5 0))
    all_goals go_wp2_with fail
    all_goals go_ret
    all_goals
      have hlen : (L0 ++ [b]).length = L0.length + 1 := by simp
      rw [hlen] at hrow5
      exact ⟨rfl, Rnet_put0 HH.out H1.out hS hb HD.out.1 HD.out.2 HL.out HS.out.2 (bl_all hbw _) hgr5 (fun k hk => row_own (HE.out ▸ H0.out) k hk) (fun k hk => hk) hrow5 ⟨by omega, fun x hx => by rcases List.mem_append.1 hx with hx | hx; exact HS.out.1.2 x hx; rw [List.mem_singleton.1 hx]; exact hbl⟩⟩
set_option maxHeartbeats 4000000 in
set_option maxRecDepth 100000 in
theorem RPut_1 (g base : Nat) (L0 L1 : List (List Int)) (S : Nat → Prop) (A : Option Addr) (c : Nat) (b : List Int) (w : World) (h : RNetAt w g base L0 L1 S) (hbl : b.length ≤ 300) (hr : Kd.C KB w A b.length b) :
    Calls Try.prog 39 #[.pointer (some ⟨g, 0, none⟩), .int .i64 1, .slice A b.length c] w fun e w' => e = .returned (.int .i64 (putN 1 b L0 L1).1) ∧ ∃ S', RNetAt w' g base (putN 1 b L0 L1).2.1 (putN 1 b L0 L1).2.2 S' ∧ (∀ k, S' k → S k ∨ w.heap.size ≤ k) ∧ OnlyS S w w' := by
  have HN := Lib.hid h
  obtain ⟨v0, v1, ok0, ok1, hh, h0, h1, hS, hb, d0, d1, hl, s0, s1⟩ := h
  obtain ⟨Av, cv, he, hc, hC⟩ := row_reads h1
  have k1 : w.cell? ⟨g, 1, none⟩ = some (.slice Av L1.length cv) := by rw [← he]; exact blk_cell hh 1
  have kf : w.frozen? ⟨g, 1, none⟩ = false := blk_frozen hh 1
  have HH := Lib.hid hh
  have H0 := Lib.hid h0
  have H1 := Lib.hid h1
  have HD := Lib.hid (And.intro d0 d1)
  have HL := Lib.hid hl
  have HS := Lib.hid (And.intro s0 s1)
  have hsm := s1.1
  have hgl := lt_at hh
  have HE := Lib.hid he
  clear hh h0 h1 d0 d1 hl s0 s1 hC he
  by_cases hf : 4096 ≤ L1.length
  · rw [show putN 1 b L0 L1 = (12, L0, L1) by unfold putN dirL; rw [if_neg (by omega)]; rw [if_neg (show ¬ (1 : Int) = 0 by omega), if_pos hf]]
    have hf' : (4096 : Int) ≤ (L1.length : Int) := by omega
    clear hf
    go_enter Try.func39, Try.ntmps39
    go_wp2_with fail
    go_ret
    exact ⟨rfl, S, HN.out, fun k hk => .inl hk, OnlyS.refl _ _⟩
  · rw [show putN 1 b L0 L1 = (0, L0, L1 ++ [b]) by unfold putN dirL; rw [if_neg (by omega)]; rw [if_neg (show ¬ (1 : Int) = 0 by omega), if_neg hf, if_neg (show ¬ (1 : Int) = 0 by omega), if_neg (show ¬ (1 : Int) = 0 by omega)]]
    have hf' : ¬ (4096 : Int) ≤ (L1.length : Int) := by omega
    have HR := Lib.hid hr
    have kd2 : ∀ o, (w.alloc o).cell? ⟨g, 1, none⟩ = some (.slice Av L1.length cv) := fun o => by rw [← HE.out]; exact blk_cell (old_at HH.out o) 1
    have kd : ∀ o, (w.drew.alloc o).cell? ⟨g, 1, none⟩ = some (.slice Av L1.length cv) := fun o => by rw [← HE.out]; exact blk_cell (old_at (w := w.drew) HH.out o) 1
    clear hr
    go_enter Try.func39, Try.ntmps39
    go_wp2_with fail
    go_region_law (first
      | (refine Kd.R_append_rows_step (Kd.int .u8) (w0 := w) w.heap.size ?hw (.tmp 29) (.tmp 30) 45 5 (.int .u8 0) 1 ?ho Try.underlying45 info_u8 rfl (by decide) (by omega) (.slice (some ⟨w.heap.size, 0, none⟩) 0 0) [] b A b.length c (fun _ => True) (fun _ => False) ?hs ?hx ?aO ?aR (fun _ _ h => h) (fun _ h => h.elim) ?aF ?aB ?aS ?aL ?_; (case hw => simp [Region.wanted]); (case ho => rfl); (case hs => rfl); (case hx => rfl); (case aO => first | exact empty_R (Kd.int .u8) 5 w.drew (fun _ => True) w.heap.size (Nat.le_refl _) trivial | exact Kd.R_drew (empty_R (Kd.int .u8) 5 w.drew (fun _ => True) w.heap.size (Nat.le_refl _) trivial) | exact Kd.R_drew (empty_R (Kd.int .u8) 5 w (fun _ => True) w.heap.size (Nat.le_refl _) trivial)); (case aR => first | exact Kd.C_alloc (Kd.C_drew HR.out) _ | exact Kd.C_drew (Kd.C_alloc (Kd.C_drew HR.out) _) | exact Kd.C_drew (Kd.C_alloc HR.out _)); (case aF => exact fun _ _ => trivial); (case aB => first | exact bl_drew (bl_all (w := w) (bl_drew (Below.refl _ _) 1) _) 1 | exact bl_drew (bl_all (w := w) (Below.refl _ _) _) 1 | exact bl_all (w := w) (bl_drew (Below.refl _ _) 1) _); (case aS => first | (show w.heap.size ≤ (w.drew.alloc _).drew.heap.size; exact (show w.heap.size ≤ (w.drew.alloc _).heap.size by rw [World.size_alloc]; exact Nat.le_succ _)) | (show w.heap.size ≤ (w.alloc _).heap.size; rw [World.size_alloc]; exact Nat.le_succ _) | (show w.heap.size ≤ (w.drew.alloc _).heap.size; rw [World.size_alloc]; exact Nat.le_succ _)); (case aL => simp; omega); intro v3 w3 hr3 hbw _ _; rw [List.nil_append] at hr3; obtain ⟨A3, c3, rfl⟩ := Kd.R_slice hr3; have hq3 : w3.cell? ⟨g, 1, none⟩ = some (.slice Av L1.length cv) := (by rw [← HE.out]; exact blk_cell (keep_at_all HH.out hbw) 1); have hqa : ∀ o, (w3.alloc o).cell? ⟨g, 1, none⟩ = some (.slice Av L1.length cv) := fun o => (by rw [← HE.out]; exact blk_cell (old_at (keep_at_all HH.out hbw) o) 1))
      | (refine put_step (v0 := .slice Av L1.length cv) rfl (.tmp 28) (.tmp 32) rfl rfl rfl (HE.out ▸ H1.out) (fun k hk => (HL.out k (HD.out.2 k hk).1).2) (by omega) hr3 hbw (by omega) ?_; intro v5 w5 hrow5 hgr5; obtain ⟨A5, c5, rfl, _, _⟩ := row_reads hrow5; have hh5 : w5.heap[g]? = some (.cells #[v0, v1] 61 (0, 0)) := keep_at_grown (old_at (keep_at_all HH.out hbw) _) hgr5 (fun he => (HD.out.2 g (row_own (HE.out ▸ H1.out) g he.symm)).2.1 rfl); have hq5 : w5.cell? ⟨g, 1, none⟩ = some (.slice Av L1.length cv) := (by rw [← HE.out]; exact blk_cell hh5 1); have hf5 : w5.frozen? ⟨g, 1, none⟩ = false := blk_frozen hh5 1))
    all_goals go_wp2_with fail
    all_goals go_ret
    all_goals
      have hlen : (L1 ++ [b]).length = L1.length + 1 := by simp
      rw [hlen] at hrow5
      exact ⟨rfl, Rnet_put1 HH.out H0.out hS hb HD.out.2 HD.out.1 HL.out HS.out.1 (bl_all hbw _) hgr5 (fun k hk => row_own (HE.out ▸ H1.out) k hk) (fun k hk => hk) hrow5 ⟨by omega, fun x hx => by rcases List.mem_append.1 hx with hx | hx; exact HS.out.2.2 x hx; rw [List.mem_singleton.1 hx]; exact hbl⟩⟩
theorem RPut_c (g base : Nat) (d : Int) (L0 L1 : List (List Int)) (S : Nat → Prop) (A : Option Addr) (c : Nat) (b : List Int) (w : World) (h : RNetAt w g base L0 L1 S) (hbl : b.length ≤ 300) (hr : Kd.C KB w A b.length b) :
    Calls Try.prog 39 #[.pointer (some ⟨g, 0, none⟩), .int .i64 d, .slice A b.length c] w fun e w' => e = .returned (.int .i64 (putN d b L0 L1).1) ∧ ∃ S', RNetAt w' g base (putN d b L0 L1).2.1 (putN d b L0 L1).2.2 S' ∧ (∀ k, S' k → S k ∨ w.heap.size ≤ k) ∧ OnlyS S w w' := by
  rcases dir_cases d with hd | rfl | rfl
  · rw [show putN d b L0 L1 = (2, L0, L1) by unfold putN; rw [if_pos hd]]
    have HN := Lib.hid h
    clear h hr
    by_cases hn : d < 0
    · clear hd
      go_enter Try.func39, Try.ntmps39
      go_wp2
      go_ret
      exact ⟨rfl, S, HN.out, fun k hk => .inl hk, OnlyS.refl _ _⟩
    · have h2 : 1 < d := by omega
      clear hd
      go_enter Try.func39, Try.ntmps39
      go_wp2
      go_ret
      exact ⟨rfl, S, HN.out, fun k hk => .inl hk, OnlyS.refl _ _⟩
  · exact RPut_0 g base L0 L1 S A c b w h hbl hr
  · exact RPut_1 g base L0 L1 S A c b w h hbl hr
set_option maxHeartbeats 4000000 in
set_option maxRecDepth 100000 in
theorem RTake_0 (g base : Nat) (i : Int) (L0 L1 : List (List Int)) (S : Nat → Prop) (w : World) (h : RNetAt w g base L0 L1 S) (hz : (atN 0 i L0 L1).1 = 0) :
    Calls Try.prog 41 #[.pointer (some ⟨g, 0, none⟩), .int .i64 0, .int .i64 i] w fun e w' => ∃ v, e = .returned (.tuple #[v, .int .i64 0]) ∧ Kd.R KB 5 w' w.heap.size (fun _ => True) v (atN 0 i L0 L1).2 ∧ ∃ S', RNetAt w' g base (takeN 0 i L0 L1).2.1 (takeN 0 i L0 L1).2.2 S' ∧ (∀ k, S' k → S k ∨ w.heap.size ≤ k) ∧ OnlyS S w w' := by
  obtain ⟨hi0, hi1, _⟩ := at_zero _ _ _ _ hz
  have AT := Lib.hid (RAt_c g base 0 i L0 L1 S w h)
  rw [hz] at AT
  rw [show takeN 0 i L0 L1 = (atN 0 i L0 L1, L0.eraseIdx i.toNat, L1) by unfold takeN; rw [if_pos ⟨hz, rfl⟩, if_neg (by omega)]]
  obtain ⟨j, rfl⟩ := Int.eq_ofNat_of_zero_le hi0
  rw [Int.toNat_natCast]
  have hj : j < L0.length := by unfold dirL at hi1; rw [if_pos rfl] at hi1; omega
  clear hi0 hi1 hz
  generalize (atN 0 (j : Int) L0 L1).2 = b at AT
  obtain ⟨v0, v1, ok0, ok1, hh, h0, h1, hS, hb, d0, d1, hl, s0, s1⟩ := h
  obtain ⟨Av, cv, he, hc, hC⟩ := row_reads h0
  obtain ⟨gr, rfl⟩ := row_head (he ▸ h0) (by omega)
  have HH := Lib.hid hh
  have H0 := Lib.hid h0
  have H1 := Lib.hid h1
  have HD := Lib.hid (And.intro d0 d1)
  have HL := Lib.hid hl
  have HS := Lib.hid (And.intro s0 s1)
  have hsm := s0.1
  have hgl := lt_at hh
  have HE := Lib.hid he
  clear hh h0 h1 d0 d1 hl s0 s1 hC he
  go_enter Try.func41, Try.ntmps41
  go_wp2_with fail
  refine AT.out.mono ?_
  rintro e w1 ⟨v, rfl, hr1, hb1⟩
  obtain ⟨A1, c1, rfl⟩ := Kd.R_slice hr1
  have HR1 := Lib.hid hr1
  have HB1 := Lib.hid hb1
  have hs1 := hb1.size
  have hh1 := Lib.hid (keep_at_all HH.out hb1)
  have k1 : w1.cell? ⟨g, 0, none⟩ = some (.slice (some ⟨gr, 0, none⟩) L0.length cv) := by rw [← HE.out]; exact blk_cell hh1.out 0
  clear hr1 hb1
  have q1 : (j : Int) ≤ (cv : Int) := by omega
  have q2 : (j : Int) + 1 ≤ (L0.length : Int) := by omega
  have q3 : (0 : Int) ≤ (j : Int) + 1 := by omega
  have q4 : (0 : Int) ≤ (j : Int) := by omega
  have hwr : IntKind.i64.wrap ((j : Int) + 1) = (j : Int) + 1 := by have h := IntKind.wrap_i64 ((j : Int) + 1); rw [h]; omega
  have hnt : ((j : Int) + 1).toNat = j + 1 := by omega
  -- the row, and its elements, in any world that kept it
  have HROW : ∀ u, Below w1.heap.size w1 u → Row K1 45 u base ok0 (.slice (some ⟨gr, 0, none⟩) L0.length cv) L0 := fun u hu => by
    rw [← HE.out]
    exact row_step H0.out (fun k hk hlt => (hu.block k (by omega)).trans (HB1.out.block k hlt))
  have HMADE : ∀ u, Below w1.heap.size w1 u → Made K1 u base (fun k => ok0 k ∧ k < w.heap.size ∧ k ≠ gr) (some ⟨gr, 0, none⟩) L0.length L0 := fun u hu => by
    have hrow : Row K1 45 u base (fun k => ok0 k ∧ base ≤ k ∧ k < w.heap.size) (.slice (some ⟨gr, 0, none⟩) L0.length cv) L0 := by
      rw [← HE.out]
      exact row_step (row_bound H0.out) (fun k hk hlt => (hu.block k (by omega)).trans (HB1.out.block k hlt))
    obtain ⟨A', c', he, hm⟩ := row_made hrow
    injection he with h1 h2 h3
    rw [h1]
    exact made_mono hm (fun k hk => ⟨hk.1.1, hk.1.2.2, fun he => hk.2 (by subst he; rfl)⟩)
  have HROWH := Lib.hid HROW
  have HMADEH := Lib.hid HMADE
  clear HROW HMADE
  have okn_lt : ∀ k, ok0 k → k < w.heap.size := fun k hk => (HL.out k (HD.out.1 k hk).1).2
  have EMB := fun (u : World) (hu : Below w1.heap.size w1 u) (v : Value) (hv : K1.R 45 u w1.heap.size (fun k => w1.heap.size ≤ k) v []) => (show Row K1 45 u base (fun k => (ok0 k ∧ k < w.heap.size ∧ k ≠ gr) ∨ w1.heap.size ≤ k) v [] from .inl (Kd.R_lower (Kd.R_mono hv (fun k hk => .inr hk)) (by omega)))
  have EMBH := Lib.hid EMB
  clear EMB
  go_wp2_with (first
    | ((with_reducible refine gate_dst (N := 21) rfl ?_); (try (refine gate_guard (by rfl) ?_; dsimp only)); refine Kd.R_lit K1 _ 45 ?hg (N := 21) ?hd (xs := ([] : List (List Int))) (inner := []) (ok := fun k => w1.heap.size ≤ k) (okp := fun k => w1.heap.size ≤ k) ?hr ?hp (fun _ hk => hk) ?hfr (Below.refl _ _) (Nat.le_refl _) (by simp) ?_; (case hd => rfl); (case hg => rfl); (case hr => first | (go_simp; done) | (go_simp; rfl)); (case hp => exact (Reps.none _ _)); (case hfr => exact Nat.le_refl _); intro v5 w5 ho5 hb5 hg5 hnew5; have hv5 := Kd.R_base ho5; have HO5 := Lib.hid (EMBH.out w5 hb5 v5 ho5); have HB5 := Lib.hid hb5; have hs5 := hb5.size; have hq5 : w5.cell? ⟨g, 0, none⟩ = some (.slice (some ⟨gr, 0, none⟩) L0.length cv) := cell_keep k1 hb5; obtain ⟨A5, c5, rfl⟩ := Kd.R_slice ho5; have HV5 := Lib.hid hv5; clear ho5 hb5 hg5 hnew5 hv5)
    | ((with_reducible refine gate_builtin (b := .append) (xs := #[.tmp 21, .tmp 29]) rfl ?_); at_builtin; refine row_append_list (d := K1) (base := base) (w := w5) (ok := fun k => (ok0 k ∧ k < w.heap.size ∧ k ≠ gr) ∨ w1.heap.size ≤ k) (okp := fun k => ok0 k ∧ k < w.heap.size ∧ k ≠ gr) (xs := []) (ys := L0.take j) (m := j) (c2 := cv) (A := some ⟨gr, 0, none⟩) rfl (.tmp 21) (.tmp 29) 58 45 (.slice none 0 0) 24 rfl Try.underlying58 info45 rfl (by decide) (by omega) rfl ?bx HO5.out (made_take (HMADEH.out w5 HB5.out) (by omega)) ?bp (fun k hk => .inr (by omega)) (by omega) ?bl ?_; (case bx => first | rfl | (simp [Act.eval, Act.put]; done)); (case bp => exact fun k hk => ⟨.inl hk, fun he => by have := HV5.out k he.symm; omega⟩); (case bl => simp only [List.length_nil]; omega); intro v6 w6 hrow6 hgr6 hat6; have hb6 : Below w1.heap.size w1 w6 := HB5.out.grown hgr6 (by omega) HV5.out; have HB6 := Lib.hid hb6; have hs6 := hb6.size; have hq6 : w6.cell? ⟨g, 0, none⟩ = some (.slice (some ⟨gr, 0, none⟩) L0.length cv) := cell_keep k1 hb6; have hv6 : ∀ k, v6.ownBlock = some k → w1.heap.size ≤ k := (fun k hk => by (rcases hat6 with h | ⟨b', h, hle⟩; (exact HV5.out k (h ▸ hk)); (rw [h] at hk; injection hk with hk; omega))); obtain ⟨A6, c6, rfl, _, _⟩ := row_reads hrow6; have HV6 := Lib.hid hv6; have HO6 := Lib.hid hrow6; clear hrow6 hgr6 hat6 hb6 hv6)
    | ((with_reducible refine gate_builtin (b := .append) (xs := #[.tmp 31, .tmp 40]) rfl ?_); at_builtin; refine row_append_list (d := K1) (base := base) (w := w6) (ok := fun k => (ok0 k ∧ k < w.heap.size ∧ k ≠ gr) ∨ w1.heap.size ≤ k) (okp := fun k => ok0 k ∧ k < w.heap.size ∧ k ≠ gr) (xs := [] ++ L0.take j) (ys := L0.drop (j + 1)) (m := L0.length - (j + 1)) (c2 := cv - (j + 1)) (A := if cv = j + 1 then some ⟨gr, 0, none⟩ else some ⟨gr, j + 1, none⟩) rfl (.tmp 31) (.tmp 40) 58 45 (.slice none 0 0) 24 rfl Try.underlying58 info45 rfl (by decide) (by omega) ?cs ?cx HO6.out ?cm ?cp (fun k hk => .inr (by omega)) (by omega) ?cl ?_; (case cs => first | rfl | (simp [Act.eval, Act.put]; done)); (case cx => first | rfl | (simp [Act.eval, Act.put]; done)); (case cm => exact (by have hm2 := made_drop (HMADEH.out w6 HB6.out) (i := j + 1) (c := cv) (by omega) (by omega); simpa [Kd.slice, Addr.add] using hm2)); (case cp => exact fun k hk => ⟨.inl hk, fun he => by have := HV6.out k he.symm; omega⟩); (case cl => simp only [List.nil_append, List.length_take]; omega); intro v7 w7 hrow7 hgr7 hat7; have hb7 : Below w1.heap.size w1 w7 := HB6.out.grown hgr7 (by omega) HV6.out; have HB7 := Lib.hid hb7; have hs7 := hb7.size; have hq7 : w7.cell? ⟨g, 0, none⟩ = some (.slice (some ⟨gr, 0, none⟩) L0.length cv) := cell_keep k1 hb7; have hf7 : w7.frozen? ⟨g, 0, none⟩ = false := blk_frozen (keep_at_all hh1.out hb7) 0; obtain ⟨A7, c7, he7, _, _⟩ := row_reads hrow7; generalize ([] ++ L0.take j ++ L0.drop (j + 1)).length = n7 at he7; subst he7; have HO7 := Lib.hid hrow7; clear hrow7 hgr7 hat7 hb7))
  all_goals go_ret2
  all_goals
    have hfin := HO7.out
    rw [List.nil_append, ← List.eraseIdx_eq_take_drop_succ] at hfin
    have ho : OnlyS S w1 (w7.setCell ⟨g, 0, none⟩ (.slice A7 n7 c7)) := (OnlyS.of_below HB7.out).set _ _ (.inl hS)
    refine ⟨_, rfl, made_stays HR1.out ho (fun k hk => (HL.out k hk).2), ?_⟩
    exact Rnet_put0 HH.out H1.out hS hb HD.out.1 HD.out.2 HL.out HS.out.2 (HB1.out.trans (HB7.out.mono hs1)) (World.grownBy.refl w7 none) (fun k hk => by cases hk) (fun k hk => by rcases hk with hk | hk; exact .inl hk.1; exact .inr (by omega)) hfin ⟨by have := List.length_eraseIdx_le L0 j; omega, fun x hx => HS.out.1.2 x (List.mem_of_mem_eraseIdx hx)⟩
set_option maxHeartbeats 4000000 in
set_option maxRecDepth 100000 in
theorem RTake_1 (g base : Nat) (i : Int) (L0 L1 : List (List Int)) (S : Nat → Prop) (w : World) (h : RNetAt w g base L0 L1 S) (hz : (atN 1 i L0 L1).1 = 0) :
    Calls Try.prog 41 #[.pointer (some ⟨g, 0, none⟩), .int .i64 1, .int .i64 i] w fun e w' => ∃ v, e = .returned (.tuple #[v, .int .i64 0]) ∧ Kd.R KB 5 w' w.heap.size (fun _ => True) v (atN 1 i L0 L1).2 ∧ ∃ S', RNetAt w' g base (takeN 1 i L0 L1).2.1 (takeN 1 i L0 L1).2.2 S' ∧ (∀ k, S' k → S k ∨ w.heap.size ≤ k) ∧ OnlyS S w w' := by
  obtain ⟨hi0, hi1, _⟩ := at_zero _ _ _ _ hz
  have AT := Lib.hid (RAt_c g base 1 i L0 L1 S w h)
  rw [hz] at AT
  rw [show takeN 1 i L0 L1 = (atN 1 i L0 L1, L0, L1.eraseIdx i.toNat) by unfold takeN; rw [if_neg (by omega), if_pos ⟨hz, rfl⟩]]
  obtain ⟨j, rfl⟩ := Int.eq_ofNat_of_zero_le hi0
  rw [Int.toNat_natCast]
  have hj : j < L1.length := by unfold dirL at hi1; rw [if_neg (by omega)] at hi1; omega
  clear hi0 hi1 hz
  generalize (atN 1 (j : Int) L0 L1).2 = b at AT
  obtain ⟨v0, v1, ok0, ok1, hh, h0, h1, hS, hb, d0, d1, hl, s0, s1⟩ := h
  obtain ⟨Av, cv, he, hc, hC⟩ := row_reads h1
  obtain ⟨gr, rfl⟩ := row_head (he ▸ h1) (by omega)
  have HH := Lib.hid hh
  have H0 := Lib.hid h0
  have H1 := Lib.hid h1
  have HD := Lib.hid (And.intro d0 d1)
  have HL := Lib.hid hl
  have HS := Lib.hid (And.intro s0 s1)
  have hsm := s1.1
  have hgl := lt_at hh
  have HE := Lib.hid he
  clear hh h0 h1 d0 d1 hl s0 s1 hC he
  go_enter Try.func41, Try.ntmps41
  go_wp2_with fail
  refine AT.out.mono ?_
  rintro e w1 ⟨v, rfl, hr1, hb1⟩
  obtain ⟨A1, c1, rfl⟩ := Kd.R_slice hr1
  have HR1 := Lib.hid hr1
  have HB1 := Lib.hid hb1
  have hs1 := hb1.size
  have hh1 := Lib.hid (keep_at_all HH.out hb1)
  have k1 : w1.cell? ⟨g, 1, none⟩ = some (.slice (some ⟨gr, 0, none⟩) L1.length cv) := by rw [← HE.out]; exact blk_cell hh1.out 1
  clear hr1 hb1
  have q1 : (j : Int) ≤ (cv : Int) := by omega
  have q2 : (j : Int) + 1 ≤ (L1.length : Int) := by omega
  have q3 : (0 : Int) ≤ (j : Int) + 1 := by omega
  have q4 : (0 : Int) ≤ (j : Int) := by omega
  have hwr : IntKind.i64.wrap ((j : Int) + 1) = (j : Int) + 1 := by have h := IntKind.wrap_i64 ((j : Int) + 1); rw [h]; omega
  have hnt : ((j : Int) + 1).toNat = j + 1 := by omega
  -- the row, and its elements, in any world that kept it
  have HROW : ∀ u, Below w1.heap.size w1 u → Row K1 45 u base ok1 (.slice (some ⟨gr, 0, none⟩) L1.length cv) L1 := fun u hu => by
    rw [← HE.out]
    exact row_step H1.out (fun k hk hlt => (hu.block k (by omega)).trans (HB1.out.block k hlt))
  have HMADE : ∀ u, Below w1.heap.size w1 u → Made K1 u base (fun k => ok1 k ∧ k < w.heap.size ∧ k ≠ gr) (some ⟨gr, 0, none⟩) L1.length L1 := fun u hu => by
    have hrow : Row K1 45 u base (fun k => ok1 k ∧ base ≤ k ∧ k < w.heap.size) (.slice (some ⟨gr, 0, none⟩) L1.length cv) L1 := by
      rw [← HE.out]
      exact row_step (row_bound H1.out) (fun k hk hlt => (hu.block k (by omega)).trans (HB1.out.block k hlt))
    obtain ⟨A', c', he, hm⟩ := row_made hrow
    injection he with h1 h2 h3
    rw [h1]
    exact made_mono hm (fun k hk => ⟨hk.1.1, hk.1.2.2, fun he => hk.2 (by subst he; rfl)⟩)
  have HROWH := Lib.hid HROW
  have HMADEH := Lib.hid HMADE
  clear HROW HMADE
  have okn_lt : ∀ k, ok1 k → k < w.heap.size := fun k hk => (HL.out k (HD.out.2 k hk).1).2
  have EMB := fun (u : World) (hu : Below w1.heap.size w1 u) (v : Value) (hv : K1.R 45 u w1.heap.size (fun k => w1.heap.size ≤ k) v []) => (show Row K1 45 u base (fun k => (ok1 k ∧ k < w.heap.size ∧ k ≠ gr) ∨ w1.heap.size ≤ k) v [] from .inl (Kd.R_lower (Kd.R_mono hv (fun k hk => .inr hk)) (by omega)))
  have EMBH := Lib.hid EMB
  clear EMB
  go_wp2_with (first
    | ((with_reducible refine gate_dst (N := 21) rfl ?_); (try (refine gate_guard (by rfl) ?_; dsimp only)); refine Kd.R_lit K1 _ 45 ?hg (N := 21) ?hd (xs := ([] : List (List Int))) (inner := []) (ok := fun k => w1.heap.size ≤ k) (okp := fun k => w1.heap.size ≤ k) ?hr ?hp (fun _ hk => hk) ?hfr (Below.refl _ _) (Nat.le_refl _) (by simp) ?_; (case hd => rfl); (case hg => rfl); (case hr => first | (go_simp; done) | (go_simp; rfl)); (case hp => exact (Reps.none _ _)); (case hfr => exact Nat.le_refl _); intro v5 w5 ho5 hb5 hg5 hnew5; have hv5 := Kd.R_base ho5; have HO5 := Lib.hid (EMBH.out w5 hb5 v5 ho5); have HB5 := Lib.hid hb5; have hs5 := hb5.size; have hq5 : w5.cell? ⟨g, 1, none⟩ = some (.slice (some ⟨gr, 0, none⟩) L1.length cv) := cell_keep k1 hb5; obtain ⟨A5, c5, rfl⟩ := Kd.R_slice ho5; have HV5 := Lib.hid hv5; clear ho5 hb5 hg5 hnew5 hv5)
    | ((with_reducible refine gate_builtin (b := .append) (xs := #[.tmp 21, .tmp 29]) rfl ?_); at_builtin; refine row_append_list (d := K1) (base := base) (w := w5) (ok := fun k => (ok1 k ∧ k < w.heap.size ∧ k ≠ gr) ∨ w1.heap.size ≤ k) (okp := fun k => ok1 k ∧ k < w.heap.size ∧ k ≠ gr) (xs := []) (ys := L1.take j) (m := j) (c2 := cv) (A := some ⟨gr, 0, none⟩) rfl (.tmp 21) (.tmp 29) 58 45 (.slice none 0 0) 24 rfl Try.underlying58 info45 rfl (by decide) (by omega) rfl ?bx HO5.out (made_take (HMADEH.out w5 HB5.out) (by omega)) ?bp (fun k hk => .inr (by omega)) (by omega) ?bl ?_; (case bx => first | rfl | (simp [Act.eval, Act.put]; done)); (case bp => exact fun k hk => ⟨.inl hk, fun he => by have := HV5.out k he.symm; omega⟩); (case bl => simp only [List.length_nil]; omega); intro v6 w6 hrow6 hgr6 hat6; have hb6 : Below w1.heap.size w1 w6 := HB5.out.grown hgr6 (by omega) HV5.out; have HB6 := Lib.hid hb6; have hs6 := hb6.size; have hq6 : w6.cell? ⟨g, 1, none⟩ = some (.slice (some ⟨gr, 0, none⟩) L1.length cv) := cell_keep k1 hb6; have hv6 : ∀ k, v6.ownBlock = some k → w1.heap.size ≤ k := (fun k hk => by (rcases hat6 with h | ⟨b', h, hle⟩; (exact HV5.out k (h ▸ hk)); (rw [h] at hk; injection hk with hk; omega))); obtain ⟨A6, c6, rfl, _, _⟩ := row_reads hrow6; have HV6 := Lib.hid hv6; have HO6 := Lib.hid hrow6; clear hrow6 hgr6 hat6 hb6 hv6)
    | ((with_reducible refine gate_builtin (b := .append) (xs := #[.tmp 31, .tmp 40]) rfl ?_); at_builtin; refine row_append_list (d := K1) (base := base) (w := w6) (ok := fun k => (ok1 k ∧ k < w.heap.size ∧ k ≠ gr) ∨ w1.heap.size ≤ k) (okp := fun k => ok1 k ∧ k < w.heap.size ∧ k ≠ gr) (xs := [] ++ L1.take j) (ys := L1.drop (j + 1)) (m := L1.length - (j + 1)) (c2 := cv - (j + 1)) (A := if cv = j + 1 then some ⟨gr, 0, none⟩ else some ⟨gr, j + 1, none⟩) rfl (.tmp 31) (.tmp 40) 58 45 (.slice none 0 0) 24 rfl Try.underlying58 info45 rfl (by decide) (by omega) ?cs ?cx HO6.out ?cm ?cp (fun k hk => .inr (by omega)) (by omega) ?cl ?_; (case cs => first | rfl | (simp [Act.eval, Act.put]; done)); (case cx => first | rfl | (simp [Act.eval, Act.put]; done)); (case cm => exact (by have hm2 := made_drop (HMADEH.out w6 HB6.out) (i := j + 1) (c := cv) (by omega) (by omega); simpa [Kd.slice, Addr.add] using hm2)); (case cp => exact fun k hk => ⟨.inl hk, fun he => by have := HV6.out k he.symm; omega⟩); (case cl => simp only [List.nil_append, List.length_take]; omega); intro v7 w7 hrow7 hgr7 hat7; have hb7 : Below w1.heap.size w1 w7 := HB6.out.grown hgr7 (by omega) HV6.out; have HB7 := Lib.hid hb7; have hs7 := hb7.size; have hq7 : w7.cell? ⟨g, 1, none⟩ = some (.slice (some ⟨gr, 0, none⟩) L1.length cv) := cell_keep k1 hb7; have hf7 : w7.frozen? ⟨g, 1, none⟩ = false := blk_frozen (keep_at_all hh1.out hb7) 1; obtain ⟨A7, c7, he7, _, _⟩ := row_reads hrow7; generalize ([] ++ L1.take j ++ L1.drop (j + 1)).length = n7 at he7; subst he7; have HO7 := Lib.hid hrow7; clear hrow7 hgr7 hat7 hb7))
  all_goals go_ret2
  all_goals
    have hfin := HO7.out
    rw [List.nil_append, ← List.eraseIdx_eq_take_drop_succ] at hfin
    have ho : OnlyS S w1 (w7.setCell ⟨g, 1, none⟩ (.slice A7 n7 c7)) := (OnlyS.of_below HB7.out).set _ _ (.inl hS)
    refine ⟨_, rfl, made_stays HR1.out ho (fun k hk => (HL.out k hk).2), ?_⟩
    exact Rnet_put1 HH.out H0.out hS hb HD.out.2 HD.out.1 HL.out HS.out.1 (HB1.out.trans (HB7.out.mono hs1)) (World.grownBy.refl w7 none) (fun k hk => by cases hk) (fun k hk => by rcases hk with hk | hk; exact .inl hk.1; exact .inr (by omega)) hfin ⟨by have := List.length_eraseIdx_le L1 j; omega, fun x hx => HS.out.2.2 x (List.mem_of_mem_eraseIdx hx)⟩
theorem RTake_c (g base : Nat) (d i : Int) (L0 L1 : List (List Int)) (S : Nat → Prop) (w : World) (h : RNetAt w g base L0 L1 S) :
    Calls Try.prog 41 #[.pointer (some ⟨g, 0, none⟩), .int .i64 d, .int .i64 i] w fun e w' => ∃ v, e = .returned (.tuple #[v, .int .i64 (atN d i L0 L1).1]) ∧ Kd.R KB 5 w' w.heap.size (fun _ => True) v (atN d i L0 L1).2 ∧ ∃ S', RNetAt w' g base (takeN d i L0 L1).2.1 (takeN d i L0 L1).2.2 S' ∧ (∀ k, S' k → S k ∨ w.heap.size ≤ k) ∧ OnlyS S w w' := by
  by_cases hz : (atN d i L0 L1).1 = 0
  · have hd := (at_zero d i L0 L1 hz).2.2
    rw [hz]
    rcases dir_cases d with h2 | rfl | rfl
    · exact absurd h2 hd
    · exact RTake_0 g base i L0 L1 S w h hz
    · exact RTake_1 g base i L0 L1 S w h hz
  · have AT := Lib.hid (RAt_c g base d i L0 L1 S w h)
    have HN := Lib.hid h
    rw [show takeN d i L0 L1 = (atN d i L0 L1, L0, L1) by unfold takeN; rw [if_neg (fun h => hz h.1), if_neg (fun h => hz h.1)]]
    rw [at_code d i L0 L1 hz] at AT ⊢
    generalize (atN d i L0 L1).1 = q at AT hz ⊢
    clear h
    go_enter Try.func41, Try.ntmps41
    go_wp2_with fail
    refine AT.out.mono ?_
    rintro e w1 ⟨v, rfl, hr1, hb1⟩
    go_wp2_with fail
    go_ret2
    exact ⟨_, rfl, Kd.R_nil _ _ _ _ _, S, Rnet_below HN.out hb1, fun k hk => .inl hk, OnlyS.of_below hb1⟩
theorem RDouble_c (g base : Nat) (d i : Int) (L0 L1 : List (List Int)) (S : Nat → Prop) (w : World) (h : RNetAt w g base L0 L1 S) :
    Calls Try.prog 43 #[.pointer (some ⟨g, 0, none⟩), .int .i64 d, .int .i64 i] w fun e w' => e = .returned (.int .i64 (doubleN d i L0 L1).1) ∧ ∃ S', RNetAt w' g base (doubleN d i L0 L1).2.1 (doubleN d i L0 L1).2.2 S' ∧ (∀ k, S' k → S k ∨ w.heap.size ≤ k) ∧ OnlyS S w w' := by
  have AT := Lib.hid (RAt_c g base d i L0 L1 S w h)
  have HN := Lib.hid h
  by_cases hz : (atN d i L0 L1).1 = 0
  · rw [show doubleN d i L0 L1 = putN d (atN d i L0 L1).2 L0 L1 by unfold doubleN; rw [if_pos hz]]
    have hsm : (atN d i L0 L1).2.length ≤ 300 := by
      obtain ⟨h0, h1, h2⟩ := at_zero d i L0 L1 hz
      unfold atN
      rw [if_neg h2, if_neg (by omega)]
      obtain ⟨_, _, _, _, _, _, _, _, _, _, _, _, s0, s1⟩ := h
      have hm : ∀ L : List (List Int), small L → i.toNat < L.length → (L.getD i.toNat []).length ≤ 300 := fun L hs hl => by
        rw [List.getD_eq_getElem?_getD, List.getElem?_eq_getElem hl]
        exact hs.2 _ (List.getElem_mem _)
      have h1' : i.toNat < (dirL d L0 L1).length := by omega
      unfold dirL at h1' ⊢
      split
      · rename_i hd; rw [if_pos hd] at h1'; exact hm _ s0 h1'
      · rename_i hd; rw [if_neg hd] at h1'; exact hm _ s1 h1'
    rw [hz] at AT
    have PT := Lib.hid (fun A c u (hu : RNetAt u g base L0 L1 S) (hr : Kd.C KB u A (atN d i L0 L1).2.length (atN d i L0 L1).2) => RPut_c g base d L0 L1 S A c _ u hu hsm hr)
    clear hsm hz h
    generalize (atN d i L0 L1).2 = b at AT PT ⊢
    generalize putN d b L0 L1 = P at PT ⊢
    go_enter Try.func43, Try.ntmps43
    go_wp2_with fail
    refine AT.out.mono ?_
    rintro e w1 ⟨v, rfl, hr1, hb1⟩
    obtain ⟨A1, c1, rfl, _, hC1⟩ := Kd.R_reads hr1
    go_wp2_with fail
    refine (PT.out _ _ _ (Rnet_below HN.out hb1) hC1).mono ?_
    rintro e w2 ⟨rfl, S', hN', hS', ho'⟩
    go_wp2_with fail
    go_ret
    exact ⟨rfl, S', hN', fun k hk => (hS' k hk).imp id (fun h => Nat.le_trans hb1.size h), (OnlyS.of_below hb1).trans ho' (fun k hk => .inl hk)⟩
  · rw [show doubleN d i L0 L1 = ((atN d i L0 L1).1, L0, L1) by unfold doubleN; rw [if_neg hz]]
    generalize (atN d i L0 L1).1 = q at AT hz ⊢
    clear h
    go_enter Try.func43, Try.ntmps43
    go_wp2_with fail
    refine AT.out.mono ?_
    rintro e w1 ⟨v, rfl, hr1, hb1⟩
    go_wp2_with fail
    go_ret
    exact ⟨rfl, S, Rnet_below HN.out hb1, fun k hk => .inl hk, OnlyS.of_below hb1⟩
end Go.Proofs.Ytajpnohhahffbaa.NetW
