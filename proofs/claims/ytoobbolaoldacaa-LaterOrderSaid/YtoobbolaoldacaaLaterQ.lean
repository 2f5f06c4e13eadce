/-
  Push: the program's and the reference's.
-/
import Derived.Test.YtoobbolaoldacaaLaterC
import Derived.Deep.DeepCutAuto
namespace Go.Proofs.Ytoobbolaoldacaa.LaterW
open Go.RowKit Go.Proofs.Ytoobbolaoldacaa Go.Proofs.Ytoobbolaoldacaa.Later Go.Proofs.Ytoobbolaoldacaa.LaterSP Go.Proofs.Ytoobbolaoldacaa.LaterP Go.Proofs.Ytoobbolaoldacaa.RowOwn Go.Proofs.Ytoobbolaoldacaa.CloneB Go.Proofs.YtoobbolaoldacaaW.PrintWords Go.Proofs.YtoobbolaoldacaaW.PrintLast Go.Proofs.YtoobbolaoldacaaW.PrintMore
set_option linter.unusedVariables false
/-- one write, boxed for an append -/
theorem made_box {w w3 : World} {base e : Nat} {v3 : Value} (x : Wr) (hr3 : Kd.R KB 5 w3 w.heap.size (fun _ => True) v3 x.data) (hb : base ≤ w.heap.size) :
    Made KW (w3.alloc (.cells #[.int .i64 x.id, .int .i64 x.off, .int .i64 x.len, v3] e)) base (fun k => w.heap.size ≤ k ∧ k < w3.heap.size) (some ⟨w3.heap.size, 0, none⟩) 1 [x] := by
  refine ⟨rfl, fun _ => ⟨_, [.int .i64 x.id, .int .i64 x.off, .int .i64 x.len, v3], rfl, ⟨rfl, fun j p hj => ?_⟩, fun j u hu => ?_⟩⟩
  · match j, hj with
    | 0, hj =>
      injection hj with hj
      subst hj
      exact KW_mkM x (Kd.R_alloc (Kd.R_lower (Kd.R_mono (Kd.R_bound hr3) (fun k hk => ⟨hk.2.1, hk.2.2.1⟩)) hb) _)
    | j + 1, hj => simp at hj
  · have hn := new_at w3 (.cells #[.int .i64 x.id, .int .i64 x.off, .int .i64 x.len, v3] e)
    match j, hu with
    | 0, hu => injection hu with hu; subst hu; exact blk_cell hn 0
    | 1, hu => injection hu with hu; subst hu; exact blk_cell hn 1
    | 2, hu => injection hu with hu; subst hu; exact blk_cell hn 2
    | 3, hu => injection hu with hu; subst hu; exact blk_cell hn 3
    | j + 4, hu => simp at hu
theorem put_step {tS e : TypeId} {z : Value} (ht : Try.prog.underlying tS = some (.slice e)) (hinfo : (Try.prog.info? e).map (fun i => (i.zero, i.size, i.bytes)) = some (some z, KW.sz, 48)) (hz : z.cells.size = KW.sz)
    {ops : Array Oper} {o : Oper} {a : Act} {K : Act → World → Prop} {Q : Exit → Act → World → Prop} {E : Prop} {w w3 : World} {base : Nat} {ok0 : Nat → Prop} {v0 v3 : Value} {L : List Wr} (x : Wr)
    (hg : o.guard = none) (s y : Operand) (ho : o.op = .call { callee := .builtin .append, args := #[s, y], argTypes := #[tS, tS] }) (hs : a.eval s = v0) (hx : a.eval y = .slice (some ⟨w3.heap.size, 0, none⟩) 1 1)
    (HO : Row KW e w base ok0 v0 L) (hlt : ∀ k, ok0 k → k < w.heap.size) (hb : base ≤ w.heap.size) (hr3 : Kd.R KB 5 w3 w.heap.size (fun _ => True) v3 x.data) (hb3 : Below w.heap.size w w3) (hl : L.length ≤ 100000)
    (hK : ∀ v1 w1, Row KW e w1 base (fun k => ok0 k ∨ w.heap.size ≤ k) v1 (L ++ [x]) → (w3.alloc (.cells #[.int .i64 x.id, .int .i64 x.off, .int .i64 x.len, v3] e)).grownBy w1 v0.ownBlock → K (a.put o.dst v1) w1) :
    if Region.wanted o (yielded ops a.tmps) = true then Oper.wp Try.prog o a (w3.alloc (.cells #[.int .i64 x.id, .int .i64 x.off, .int .i64 x.len, v3] e)) K Q else E := by
  have hbl : Below w.heap.size w (w3.alloc (.cells #[.int .i64 x.id, .int .i64 x.off, .int .i64 x.len, v3] e)) := bl_all hb3 _
  have HO' : Row KW e (w3.alloc (.cells #[.int .i64 x.id, .int .i64 x.off, .int .i64 x.len, v3] e)) base (fun k => ok0 k ∨ w.heap.size ≤ k) v0 L := row_mono (row_step HO (fun k hk hlt => hbl.block k hlt)) (fun k hk => .inl hk)
  refine row_append_step (d := KW) (okp := fun k => w.heap.size ≤ k ∧ k < w3.heap.size) (base := base) (c2 := 1) (m := 1) hg s y tS e z 48 ho ht hinfo hz (by decide) (by omega) hs hx HO' (made_box x hr3 hb) (by omega) ?_ ?_ ?_ ?_ ?_
  · intro k hk
    refine ⟨.inr hk.1, fun he => ?_⟩
    have := hlt k (row_own_g HO k he.symm)
    omega
  · intro k hk
    have := hbl.size
    exact .inr (by omega)
  · have := hbl.size
    omega
  · omega
  · intro v1 w1 h1 h2 h3
    exact hK v1 w1 h1 h2
set_option maxHeartbeats 4000000 in
set_option maxRecDepth 100000 in
theorem Push_c (g base : Nat) (L : List Wr) (S : Nat → Prop) (x : Wr) (A : Option Addr) (c : Nat) (w : World) (h : QAt w g base L S) (hL : L.length < 100000) (hbl : x.data.length ≤ 140737488355328) (hr : Kd.C KB w A x.data.length x.data) :
    Calls Try.prog 15 #[.pointer (some ⟨g, 0, none⟩), .int .i64 x.id, .agg #[.int .i64 x.off, .int .i64 x.len], .slice A x.data.length c] w fun e w' => e = .returned (.bool true) ∧ ∃ S', QAt w' g base (L ++ [x]) S' ∧ (∀ k, S' k → S k ∨ w.heap.size ≤ k) ∧ OnlyS S w w' := by
  have hbW : Below w.heap.size w (w.alloc (.cells #[.int .i64 x.off, .int .i64 x.len] 27)) := bl_all (Below.refl _ _) _
  have hbx := new_at w (.cells #[.int .i64 x.off, .int .i64 x.len] 27)
  have hW := rw_below h hbW
  have I := Lib.hid (is_c g true _ (q_cells hW).1)
  have HR := Lib.hid (Kd.C_below hr hbW)
  have hsW : w.heap.size ≤ (w.alloc (.cells #[.int .i64 x.off, .int .i64 x.len] 27)).heap.size := hbW.size
  have HBW := Lib.hid hbW
  go_enter Try.func15, Try.ntmps15
  go_wp2_with fail
  refine I.out.mono ?_
  rintro e w' ⟨rfl, rfl⟩
  clear h hr hbW I
  generalize w.alloc (.cells #[.int .i64 x.off, .int .i64 x.len] 27) = W at hbx hW HR hsW HBW ⊢
  generalize hq : w.heap.size = q at hbx hsW ⊢
  have HQ := Lib.hid hq
  clear hq
  obtain ⟨v0, ok0, hh, h0, hS, hb, d0, hl, hn⟩ := hW
  obtain ⟨Av, cv, he, hc, hC⟩ := row_reads h0
  have k1 : W.cell? ⟨g, 1, none⟩ = some (.slice Av L.length cv) := by rw [← he]; exact blk_cell hh 1
  have kf : W.frozen? ⟨g, 1, none⟩ = false := blk_frozen hh 1
  have b0 : W.cell? ⟨q, 0, none⟩ = some (.int .i64 x.off) := blk_cell hbx 0
  have b1 : W.cell? ⟨q, 1, none⟩ = some (.int .i64 x.len) := blk_cell hbx 1
  have HH := Lib.hid hh
  have H0 := Lib.hid (he ▸ h0)
  have HD := Lib.hid d0
  have HL := Lib.hid hl
  have HBX := Lib.hid hbx
  have hgl := lt_at hh
  have CL := Lib.hid (fun u (hu : Kd.C KB u A x.data.length x.data) => clone_c A c x.data u hu hbl)
  have HE := Lib.hid he
  clear hh h0 d0 hl hC he hbl hbx
  go_wp2_with fail
  go_region_law (first
    | (go_simp; go_at_call 62; refine (CL.out _ ?_).mono ?_; exact Kd.C_drew HR.out; rintro e w3 ⟨v3, rfl, hr3, hb3⟩; obtain ⟨A3, c3, rfl⟩ := Kd.R_slice hr3; have hbw : Below W.heap.size W w3 := ⟨hb3.os, hb3.tape, hb3.output, hb3.size, hb3.block⟩; have hq3 : w3.cell? ⟨g, 1, none⟩ = some (.slice Av L.length cv) := (by rw [← HE.out]; exact blk_cell (keep_at_all HH.out hbw) 1); have hqa : ∀ o, (w3.alloc o).cell? ⟨g, 1, none⟩ = some (.slice Av L.length cv) := fun o => (by rw [← HE.out]; exact blk_cell (old_at (keep_at_all HH.out hbw) o) 1); have hx0 : w3.cell? ⟨q, 0, none⟩ = some (.int .i64 x.off) := blk_cell (keep_at_all HBX.out hbw) 0; have hx1 : w3.cell? ⟨q, 1, none⟩ = some (.int .i64 x.len) := blk_cell (keep_at_all HBX.out hbw) 1)
    | (refine put_step (v0 := .slice Av L.length cv) Try.underlying71 info34 rfl x rfl (.tmp 16) (.tmp 22) rfl rfl rfl H0.out (fun k hk => (HL.out k (HD.out k hk).1).2) (by omega) hr3 hbw (by omega) ?_; intro v5 w5 hrow5 hgr5; obtain ⟨A5, c5, rfl, _, _⟩ := row_reads hrow5; have hh5 : w5.heap[g]? = some (.cells (hdQ v0) 73 (0, 0)) := keep_at_grown (old_at (keep_at_all HH.out hbw) _) hgr5 (fun he => (HD.out g (row_own_g H0.out g he.symm)).2 rfl); have hq5 : w5.cell? ⟨g, 1, none⟩ = some (.slice Av L.length cv) := (by rw [← HE.out]; exact blk_cell hh5 1); have hf5 : w5.frozen? ⟨g, 1, none⟩ = false := blk_frozen hh5 1))
  all_goals go_wp2_with fail
  all_goals go_ret
  all_goals
    have hlen : (L ++ [x]).length = L.length + 1 := by simp
    rw [hlen] at hrow5
    obtain ⟨S', p1, p2, p3⟩ := rw_put (j := 1) (fun _ _ => rfl) (by decide) HH.out hS hb HD.out HL.out (bl_all hbw _) hgr5 (fun k hk => row_own_g H0.out k hk) (fun k hk => hk) hrow5 (by omega)
    refine ⟨rfl, S', p1, fun k hk => ?_, ?_⟩
    · rcases p2 k hk with h1 | h1
      · exact .inl h1
      · exact .inr (by have := HQ.out; omega)
    · exact (OnlyS.of_below (S := S) HBW.out).trans p3 (fun k hk => .inl hk)
set_option maxHeartbeats 4000000 in
set_option maxRecDepth 100000 in
theorem RPush_c (g base : Nat) (L : List Wr) (S : Nat → Prop) (x : Wr) (A : Option Addr) (c : Nat) (w : World) (h : RQAt w g base L S) (hL : L.length < 100000) (hbl : x.data.length ≤ 140737488355328) (hr : Kd.C KB w A x.data.length x.data) :
    Calls Try.prog 27 #[.pointer (some ⟨g, 0, none⟩), .int .i64 x.id, .agg #[.int .i64 x.off, .int .i64 x.len], .slice A x.data.length c] w fun e w' => e = .returned (.tuple #[]) ∧ ∃ S', RQAt w' g base (L ++ [x]) S' ∧ (∀ k, S' k → S k ∨ w.heap.size ≤ k) ∧ OnlyS S w w' := by
  have hbW : Below w.heap.size w (w.alloc (.cells #[.int .i64 x.off, .int .i64 x.len] 27)) := bl_all (Below.refl _ _) _
  have hbx := new_at w (.cells #[.int .i64 x.off, .int .i64 x.len] 27)
  have hW := rw_below h hbW
  have HR := Lib.hid (Kd.C_below hr hbW)
  have hsW : w.heap.size ≤ (w.alloc (.cells #[.int .i64 x.off, .int .i64 x.len] 27)).heap.size := hbW.size
  have HBW := Lib.hid hbW
  go_enter Try.func27, Try.ntmps27
  go_upto_region 1 with (fail)
  clear h hr hbW
  generalize w.alloc (.cells #[.int .i64 x.off, .int .i64 x.len] 27) = W at hbx hW HR hsW HBW ⊢
  generalize hq : w.heap.size = q at hbx hsW ⊢
  have HQ := Lib.hid hq
  clear hq
  obtain ⟨v0, ok0, hh, h0, hS, hb, d0, hl, hn⟩ := hW
  obtain ⟨Av, cv, he, hc, hC⟩ := row_reads h0
  have k1 : W.cell? ⟨g, 0, none⟩ = some (.slice Av L.length cv) := by rw [← he]; exact blk_cell hh 0
  have kf : W.frozen? ⟨g, 0, none⟩ = false := blk_frozen hh 0
  have b0 : W.cell? ⟨q, 0, none⟩ = some (.int .i64 x.off) := blk_cell hbx 0
  have b1 : W.cell? ⟨q, 1, none⟩ = some (.int .i64 x.len) := blk_cell hbx 1
  have HH := Lib.hid hh
  have H0 := Lib.hid (he ▸ h0)
  have HD := Lib.hid d0
  have HL := Lib.hid hl
  have HBX := Lib.hid hbx
  have hgl := lt_at hh
  have HE := Lib.hid he
  have HBN := Lib.hid hbl
  have kd2 : ∀ o, (W.alloc o).cell? ⟨g, 0, none⟩ = some (.slice Av L.length cv) := fun o => by rw [← HE.out]; exact blk_cell (old_at HH.out o) 0
  have kd : ∀ o, (W.drew.alloc o).cell? ⟨g, 0, none⟩ = some (.slice Av L.length cv) := fun o => by rw [← HE.out]; exact blk_cell (old_at (w := W.drew) HH.out o) 0
  have be0 : ∀ o, (W.alloc o).cell? ⟨q, 0, none⟩ = some (.int .i64 x.off) := fun o => blk_cell (old_at hbx o) 0
  have be1 : ∀ o, (W.alloc o).cell? ⟨q, 1, none⟩ = some (.int .i64 x.len) := fun o => blk_cell (old_at hbx o) 1
  have bd0 : ∀ o, (W.drew.alloc o).cell? ⟨q, 0, none⟩ = some (.int .i64 x.off) := fun o => blk_cell (old_at (w := W.drew) hbx o) 0
  have bd1 : ∀ o, (W.drew.alloc o).cell? ⟨q, 1, none⟩ = some (.int .i64 x.len) := fun o => blk_cell (old_at (w := W.drew) hbx o) 1
  clear hh h0 d0 hl hC he hbx hbl
  go_region_law (first
    | (refine Kd.R_append_rows_step (Kd.int .u8) (w0 := W) W.heap.size ?hw (.tmp 15) (.tmp 16) 28 5 (.int .u8 0) 1 ?ho Try.underlying28 info_u8 rfl (by decide) (by omega) (.slice (some ⟨W.heap.size, 0, none⟩) 0 0) [] x.data A x.data.length c (fun _ => True) (fun _ => False) ?hs ?hx ?aO ?aR (fun _ _ h => h) (fun _ h => h.elim) ?aF ?aB ?aS ?aL ?_; (case hw => simp [Region.wanted]); (case ho => rfl); (case hs => rfl); (case hx => rfl); (case aO => first | exact empty_R (Kd.int .u8) 5 W.drew (fun _ => True) W.heap.size (Nat.le_refl _) trivial | exact Kd.R_drew (empty_R (Kd.int .u8) 5 W.drew (fun _ => True) W.heap.size (Nat.le_refl _) trivial) | exact Kd.R_drew (empty_R (Kd.int .u8) 5 W (fun _ => True) W.heap.size (Nat.le_refl _) trivial)); (case aR => first | exact Kd.C_alloc (Kd.C_drew HR.out) _ | exact Kd.C_drew (Kd.C_alloc (Kd.C_drew HR.out) _) | exact Kd.C_drew (Kd.C_alloc HR.out _)); (case aF => exact fun _ _ => trivial); (case aB => first | exact bl_drew (bl_all (w := W) (bl_drew (Below.refl _ _) 1) _) 1 | exact bl_drew (bl_all (w := W) (Below.refl _ _) _) 1 | exact bl_all (w := W) (bl_drew (Below.refl _ _) 1) _); (case aS => first | (show W.heap.size ≤ (W.drew.alloc _).drew.heap.size; exact (show W.heap.size ≤ (W.drew.alloc _).heap.size by rw [World.size_alloc]; exact Nat.le_succ _)) | (show W.heap.size ≤ (W.alloc _).heap.size; rw [World.size_alloc]; exact Nat.le_succ _) | (show W.heap.size ≤ (W.drew.alloc _).heap.size; rw [World.size_alloc]; exact Nat.le_succ _)); (case aL => have := HBN.out; simp; omega); intro v3 w3 hr3 hbw _ _; rw [List.nil_append] at hr3; obtain ⟨A3, c3, rfl⟩ := Kd.R_slice hr3; have hq3 : w3.cell? ⟨g, 0, none⟩ = some (.slice Av L.length cv) := (by rw [← HE.out]; exact blk_cell (keep_at_all HH.out hbw) 0); have hqa : ∀ o, (w3.alloc o).cell? ⟨g, 0, none⟩ = some (.slice Av L.length cv) := fun o => (by rw [← HE.out]; exact blk_cell (old_at (keep_at_all HH.out hbw) o) 0); have hx0 : w3.cell? ⟨q, 0, none⟩ = some (.int .i64 x.off) := blk_cell (keep_at_all HBX.out hbw) 0; have hx1 : w3.cell? ⟨q, 1, none⟩ = some (.int .i64 x.len) := blk_cell (keep_at_all HBX.out hbw) 1)
    | (refine put_step (v0 := .slice Av L.length cv) Try.underlying58 info62 rfl x rfl (.tmp 12) (.tmp 19) rfl rfl rfl H0.out (fun k hk => (HL.out k (HD.out k hk).1).2) (by omega) hr3 hbw (by omega) ?_; intro v5 w5 hrow5 hgr5; obtain ⟨A5, c5, rfl, _, _⟩ := row_reads hrow5; have hh5 : w5.heap[g]? = some (.cells (hdR v0) 60 (0, 0)) := keep_at_grown (old_at (keep_at_all HH.out hbw) _) hgr5 (fun he => (HD.out g (row_own_g H0.out g he.symm)).2 rfl); have hq5 : w5.cell? ⟨g, 0, none⟩ = some (.slice Av L.length cv) := (by rw [← HE.out]; exact blk_cell hh5 0); have hf5 : w5.frozen? ⟨g, 0, none⟩ = false := blk_frozen hh5 0))
  all_goals go_wp2_with fail
  all_goals go_end0
  all_goals
    have hlen : (L ++ [x]).length = L.length + 1 := by simp
    rw [hlen] at hrow5
    obtain ⟨S', p1, p2, p3⟩ := rw_put (j := 0) (fun _ _ => rfl) (by decide) HH.out hS hb HD.out HL.out (bl_all hbw _) hgr5 (fun k hk => row_own_g H0.out k hk) (fun k hk => hk) hrow5 (by omega)
    refine ⟨rfl, S', p1, fun k hk => ?_, ?_⟩
    · rcases p2 k hk with h1 | h1
      · exact .inl h1
      · exact .inr (by have := HQ.out; omega)
    · exact (OnlyS.of_below (S := S) HBW.out).trans p3 (fun k hk => .inl hk)
end Go.Proofs.Ytoobbolaoldacaa.LaterW
