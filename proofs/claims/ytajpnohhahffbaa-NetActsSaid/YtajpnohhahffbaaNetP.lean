/-
  Put of package net.
-/
import Derived.Test.YtajpnohhahffbaaNetC
namespace Go.Proofs.Ytajpnohhahffbaa.NetW
open Go.RowKit Go.Proofs.Ytajpnohhahffbaa Go.Proofs.Ytajpnohhahffbaa.RowOwn Go.Proofs.Ytajpnohhahffbaa.CloneB Go.Proofs.YtajpnohhahffbaaW.PrintWords Go.Proofs.YtajpnohhahffbaaW.PrintMore
set_option linter.unusedVariables false
theorem row_own {w : World} {base : Nat} {ok : Nat → Prop} {v : Value} {L : List (List Int)} (h : Row K1 45 w base ok v L) (k : Nat) (hk : v.ownBlock = some k) : ok k := by
  rcases h with h | ⟨g, c, rfl, h⟩
  · exact h.1 k hk
  · exact h.1 k hk
/-- one packet, boxed for an append -/
theorem made_box {w w3 : World} {base : Nat} {v3 : Value} {b : List Int} (hr3 : Kd.R KB 5 w3 w.heap.size (fun _ => True) v3 b) (hb : base ≤ w.heap.size) :
    Made K1 (w3.alloc (.cells #[v3] 45)) base (fun k => w.heap.size ≤ k ∧ k < w3.heap.size) (some ⟨w3.heap.size, 0, none⟩) 1 [b] := by
  refine ⟨rfl, fun _ => ⟨_, [v3], rfl, ⟨rfl, fun j p hj => ?_⟩, fun j u hu => ?_⟩⟩
  · match j, hj with
    | 0, hj =>
      injection hj with hj
      subst hj
      exact ⟨v3, rfl, Kd.R_alloc (Kd.R_lower (Kd.R_mono (Kd.R_bound hr3) (fun k hk => ⟨hk.2.1, hk.2.2.1⟩)) hb) _⟩
    | j + 1, hj => simp at hj
  · match j, hu with
    | 0, hu =>
      injection hu with hu
      subst hu
      exact blk_cell (new_at w3 (.cells #[v3] 45)) 0
    | j + 1, hu => simp at hu
theorem put_step {ops : Array Oper} {o : Oper} {a : Act} {K : Act → World → Prop} {Q : Exit → Act → World → Prop} {E : Prop} {w w3 : World} {base : Nat} {ok0 : Nat → Prop} {v0 v3 : Value} {L : List (List Int)} {b : List Int}
    (hg : o.guard = none) (s x : Operand) (ho : o.op = .call { callee := .builtin .append, args := #[s, x], argTypes := #[58, 58] }) (hs : a.eval s = v0) (hx : a.eval x = .slice (some ⟨w3.heap.size, 0, none⟩) 1 1)
    (HO : Row K1 45 w base ok0 v0 L) (hlt : ∀ k, ok0 k → k < w.heap.size) (hb : base ≤ w.heap.size) (hr3 : Kd.R KB 5 w3 w.heap.size (fun _ => True) v3 b) (hb3 : Below w.heap.size w w3) (hl : L.length ≤ 100000)
    (hK : ∀ v1 w1, Row K1 45 w1 base (fun k => ok0 k ∨ w.heap.size ≤ k) v1 (L ++ [b]) → (w3.alloc (.cells #[v3] 45)).grownBy w1 v0.ownBlock → K (a.put o.dst v1) w1) :
    if Region.wanted o (yielded ops a.tmps) = true then Oper.wp Try.prog o a (w3.alloc (.cells #[v3] 45)) K Q else E := by
  have hbl : Below w.heap.size w (w3.alloc (.cells #[v3] 45)) := bl_all hb3 _
  have HO' : Row K1 45 (w3.alloc (.cells #[v3] 45)) base (fun k => ok0 k ∨ w.heap.size ≤ k) v0 L := row_mono (row_step HO (fun k hk hlt => hbl.block k hlt)) (fun k hk => .inl hk)
  refine row_append_step (d := K1) (okp := fun k => w.heap.size ≤ k ∧ k < w3.heap.size) (base := base) (c2 := 1) (m := 1) hg s x 58 45 (.slice none 0 0) 24 ho Try.underlying58 info45 rfl (by decide) (by omega) hs hx HO' (made_box hr3 hb) (by omega) ?_ ?_ ?_ ?_ ?_
  · intro k hk
    refine ⟨.inr hk.1, fun he => ?_⟩
    have := hlt k (row_own HO k he.symm)
    omega
  · intro k hk
    have := hbl.size
    exact .inr (by omega)
  · have := hbl.size
    omega
  · omega
  · intro v1 w1 h1 h2 h3
    exact hK v1 w1 h1 h2
set_option maxHeartbeats 4000000 in
set_option maxRecDepth 100000 in
theorem Put_0 (g base : Nat) (L0 L1 : List (List Int)) (S : Nat → Prop) (A : Option Addr) (c : Nat) (b : List Int) (w : World) (h : NetAt w g base L0 L1 S) (hbl : b.length ≤ 300) (hr : Kd.C KB w A b.length b) :
    Calls Try.prog 38 #[.pointer (some ⟨g, 0, none⟩), .int .i64 0, .slice A b.length c] w fun e w' => e = .returned (.int .i64 (putN 0 b L0 L1).1) ∧ ∃ S', NetAt w' g base (putN 0 b L0 L1).2.1 (putN 0 b L0 L1).2.2 S' ∧ (∀ k, S' k → S k ∨ w.heap.size ≤ k) ∧ OnlyS S w w' := by
  have HN := Lib.hid h
  obtain ⟨v0, v1, ok0, ok1, hh, h0, h1, hS, hb, d0, d1, hl, s0, s1⟩ := h
  obtain ⟨Av, cv, he, hc, hC⟩ := row_reads h0
  have k0 : w.cell? ⟨g, 0, none⟩ = some (.bool true) := blk_cell hh 0
  have k1 : w.cell? ⟨g, 1, none⟩ = some (.slice Av L0.length cv) := by rw [← he]; exact blk_cell hh 1
  have kf : w.frozen? ⟨g, 1, none⟩ = false := blk_frozen hh 1
  have D := Lib.hid (check_ok g 0 w k0 (by omega) (by omega))
  have HH := Lib.hid hh
  have H0 := Lib.hid h0
  have H1 := Lib.hid h1
  have HD := Lib.hid (And.intro d0 d1)
  have HL := Lib.hid hl
  have HS := Lib.hid (And.intro s0 s1)
  have hsm := s0.1
  have hgl := lt_at hh
  have HE := Lib.hid he
  clear hh h0 h1 d0 d1 hl s0 s1 hC k0 he
  by_cases hf : 4096 ≤ L0.length
  · rw [show putN 0 b L0 L1 = (12, L0, L1) by unfold putN dirL; rw [if_neg (by omega)]; rw [if_pos rfl, if_pos hf]]
    have hf' : (4096 : Int) ≤ (L0.length : Int) := by omega
    clear hf
    go_enter Try.func38, Try.ntmps38
    go_wp2_with fail
    refine D.out.mono ?_
    rintro e w' ⟨rfl, rfl⟩
    go_wp2_with fail
    go_ret
    exact ⟨rfl, S, HN.out, fun k hk => .inl hk, OnlyS.refl _ _⟩
  · rw [show putN 0 b L0 L1 = (0, L0 ++ [b], L1) by unfold putN dirL; rw [if_neg (by omega)]; rw [if_pos rfl, if_neg hf, if_pos rfl, if_pos rfl]]
    have hf' : ¬ (4096 : Int) ≤ (L0.length : Int) := by omega
    have CL := Lib.hid (fun u (hu : Kd.C KB u A b.length b) => clone_c A c b u hu (by omega))
    have HR := Lib.hid hr
    clear hr
    go_enter Try.func38, Try.ntmps38
    go_wp2_with fail
    refine D.out.mono ?_
    rintro e w' ⟨rfl, rfl⟩
    go_wp2_with fail
    go_region_law (first
      | (go_simp; go_at_call 70; refine (CL.out _ ?_).mono ?_; exact Kd.C_drew HR.out; rintro e w3 ⟨v3, rfl, hr3, hb3⟩; obtain ⟨A3, c3, rfl⟩ := Kd.R_slice hr3; have hbw : Below w.heap.size w w3 := ⟨hb3.os, hb3.tape, hb3.output, hb3.size, hb3.block⟩; have hq3 : w3.cell? ⟨g, 1, none⟩ = some (.slice Av L0.length cv) := (by rw [← HE.out]; exact blk_cell (keep_at_all HH.out hbw) 1); have hqa : ∀ o, (w3.alloc o).cell? ⟨g, 1, none⟩ = some (.slice Av L0.length cv) := fun o => (by rw [← HE.out]; exact blk_cell (old_at (keep_at_all HH.out hbw) o) 1))
      | (refine put_step (v0 := .slice Av L0.length cv) rfl (.tmp 29) (.tmp 32) rfl rfl rfl (HE.out ▸ H0.out) (fun k hk => (HL.out k (HD.out.1 k hk).1).2) (by omega) hr3 hbw (by omega) ?_; intro v5 w5 hrow5 hgr5; obtain ⟨A5, c5, rfl, _, _⟩ := row_reads hrow5; have hh5 : w5.heap[g]? = some (.cells #[.bool true, v0, v1] 77 (0, 0)) := keep_at_grown (old_at (keep_at_all HH.out hbw) _) hgr5 (fun he => (HD.out.1 g (row_own (HE.out ▸ H0.out) g he.symm)).2.1 rfl); have hq5 : w5.cell? ⟨g, 1, none⟩ = some (.slice Av L0.length cv) := (by rw [← HE.out]; exact blk_cell hh5 1); have hf5 : w5.frozen? ⟨g, 1, none⟩ = false := blk_frozen hh5 1))
    all_goals go_wp2_with fail
    all_goals go_ret
    all_goals
      have hlen : (L0 ++ [b]).length = L0.length + 1 := by simp
      rw [hlen] at hrow5
      exact ⟨rfl, net_put0 HH.out H1.out hS hb HD.out.1 HD.out.2 HL.out HS.out.2 (bl_all hbw _) hgr5 (fun k hk => row_own (HE.out ▸ H0.out) k hk) (fun k hk => hk) hrow5 ⟨by omega, fun x hx => by rcases List.mem_append.1 hx with hx | hx; exact HS.out.1.2 x hx; rw [List.mem_singleton.1 hx]; exact hbl⟩⟩
set_option maxHeartbeats 4000000 in
set_option maxRecDepth 100000 in
theorem Put_1 (g base : Nat) (L0 L1 : List (List Int)) (S : Nat → Prop) (A : Option Addr) (c : Nat) (b : List Int) (w : World) (h : NetAt w g base L0 L1 S) (hbl : b.length ≤ 300) (hr : Kd.C KB w A b.length b) :
    Calls Try.prog 38 #[.pointer (some ⟨g, 0, none⟩), .int .i64 1, .slice A b.length c] w fun e w' => e = .returned (.int .i64 (putN 1 b L0 L1).1) ∧ ∃ S', NetAt w' g base (putN 1 b L0 L1).2.1 (putN 1 b L0 L1).2.2 S' ∧ (∀ k, S' k → S k ∨ w.heap.size ≤ k) ∧ OnlyS S w w' := by
  have HN := Lib.hid h
  obtain ⟨v0, v1, ok0, ok1, hh, h0, h1, hS, hb, d0, d1, hl, s0, s1⟩ := h
  obtain ⟨Av, cv, he, hc, hC⟩ := row_reads h1
  have k0 : w.cell? ⟨g, 0, none⟩ = some (.bool true) := blk_cell hh 0
  have k1 : w.cell? ⟨g, 2, none⟩ = some (.slice Av L1.length cv) := by rw [← he]; exact blk_cell hh 2
  have kf : w.frozen? ⟨g, 2, none⟩ = false := blk_frozen hh 2
  have D := Lib.hid (check_ok g 1 w k0 (by omega) (by omega))
  have HH := Lib.hid hh
  have H0 := Lib.hid h0
  have H1 := Lib.hid h1
  have HD := Lib.hid (And.intro d0 d1)
  have HL := Lib.hid hl
  have HS := Lib.hid (And.intro s0 s1)
  have hsm := s1.1
  have hgl := lt_at hh
  have HE := Lib.hid he
  clear hh h0 h1 d0 d1 hl s0 s1 hC k0 he
  by_cases hf : 4096 ≤ L1.length
  · rw [show putN 1 b L0 L1 = (12, L0, L1) by unfold putN dirL; rw [if_neg (by omega)]; rw [if_neg (show ¬ (1 : Int) = 0 by omega), if_pos hf]]
    have hf' : (4096 : Int) ≤ (L1.length : Int) := by omega
    clear hf
    go_enter Try.func38, Try.ntmps38
    go_wp2_with fail
    refine D.out.mono ?_
    rintro e w' ⟨rfl, rfl⟩
    go_wp2_with fail
    go_ret
    exact ⟨rfl, S, HN.out, fun k hk => .inl hk, OnlyS.refl _ _⟩
  · rw [show putN 1 b L0 L1 = (0, L0, L1 ++ [b]) by unfold putN dirL; rw [if_neg (by omega)]; rw [if_neg (show ¬ (1 : Int) = 0 by omega), if_neg hf, if_neg (show ¬ (1 : Int) = 0 by omega), if_neg (show ¬ (1 : Int) = 0 by omega)]]
    have hf' : ¬ (4096 : Int) ≤ (L1.length : Int) := by omega
    have CL := Lib.hid (fun u (hu : Kd.C KB u A b.length b) => clone_c A c b u hu (by omega))
    have HR := Lib.hid hr
    clear hr
    go_enter Try.func38, Try.ntmps38
    go_wp2_with fail
    refine D.out.mono ?_
    rintro e w' ⟨rfl, rfl⟩
    go_wp2_with fail
    go_region_law (first
      | (go_simp; go_at_call 70; refine (CL.out _ ?_).mono ?_; exact Kd.C_drew HR.out; rintro e w3 ⟨v3, rfl, hr3, hb3⟩; obtain ⟨A3, c3, rfl⟩ := Kd.R_slice hr3; have hbw : Below w.heap.size w w3 := ⟨hb3.os, hb3.tape, hb3.output, hb3.size, hb3.block⟩; have hq3 : w3.cell? ⟨g, 2, none⟩ = some (.slice Av L1.length cv) := (by rw [← HE.out]; exact blk_cell (keep_at_all HH.out hbw) 2); have hqa : ∀ o, (w3.alloc o).cell? ⟨g, 2, none⟩ = some (.slice Av L1.length cv) := fun o => (by rw [← HE.out]; exact blk_cell (old_at (keep_at_all HH.out hbw) o) 2))
      | (refine put_step (v0 := .slice Av L1.length cv) rfl (.tmp 29) (.tmp 32) rfl rfl rfl (HE.out ▸ H1.out) (fun k hk => (HL.out k (HD.out.2 k hk).1).2) (by omega) hr3 hbw (by omega) ?_; intro v5 w5 hrow5 hgr5; obtain ⟨A5, c5, rfl, _, _⟩ := row_reads hrow5; have hh5 : w5.heap[g]? = some (.cells #[.bool true, v0, v1] 77 (0, 0)) := keep_at_grown (old_at (keep_at_all HH.out hbw) _) hgr5 (fun he => (HD.out.2 g (row_own (HE.out ▸ H1.out) g he.symm)).2.1 rfl); have hq5 : w5.cell? ⟨g, 2, none⟩ = some (.slice Av L1.length cv) := (by rw [← HE.out]; exact blk_cell hh5 2); have hf5 : w5.frozen? ⟨g, 2, none⟩ = false := blk_frozen hh5 2))
    all_goals go_wp2_with fail
    all_goals go_ret
    all_goals
      have hlen : (L1 ++ [b]).length = L1.length + 1 := by simp
      rw [hlen] at hrow5
      exact ⟨rfl, net_put1 HH.out H0.out hS hb HD.out.2 HD.out.1 HL.out HS.out.1 (bl_all hbw _) hgr5 (fun k hk => row_own (HE.out ▸ H1.out) k hk) (fun k hk => hk) hrow5 ⟨by omega, fun x hx => by rcases List.mem_append.1 hx with hx | hx; exact HS.out.2.2 x hx; rw [List.mem_singleton.1 hx]; exact hbl⟩⟩
theorem Put_c (g base : Nat) (d : Int) (L0 L1 : List (List Int)) (S : Nat → Prop) (A : Option Addr) (c : Nat) (b : List Int) (w : World) (h : NetAt w g base L0 L1 S) (hbl : b.length ≤ 300) (hr : Kd.C KB w A b.length b) :
    Calls Try.prog 38 #[.pointer (some ⟨g, 0, none⟩), .int .i64 d, .slice A b.length c] w fun e w' => e = .returned (.int .i64 (putN d b L0 L1).1) ∧ ∃ S', NetAt w' g base (putN d b L0 L1).2.1 (putN d b L0 L1).2.2 S' ∧ (∀ k, S' k → S k ∨ w.heap.size ≤ k) ∧ OnlyS S w w' := by
  rcases dir_cases d with hd | rfl | rfl
  · rw [show putN d b L0 L1 = (2, L0, L1) by unfold putN; rw [if_pos hd]]
    have D := Lib.hid (check_dir g d w (made_of w g base L0 L1 S h) hd)
    have HN := Lib.hid h
    clear h hd hr
    go_enter Try.func38, Try.ntmps38
    go_wp2_with fail
    refine D.out.mono ?_
    rintro e w' ⟨rfl, rfl⟩
    go_wp2_with fail
    go_ret
    exact ⟨rfl, S, HN.out, fun k hk => .inl hk, OnlyS.refl _ _⟩
  · exact Put_0 g base L0 L1 S A c b w h hbl hr
  · exact Put_1 g base L0 L1 S A c b w h hbl hr
end Go.Proofs.Ytajpnohhahffbaa.NetW
