/-
  Both queues side by side, and the walk of LaterActs.
-/
import Derived.Test.YtoobbolaoldacaaLaterL
namespace Go.Proofs.Ytoobbolaoldacaa.LaterW
open Go.RowKit Go.Proofs.Ytoobbolaoldacaa Go.Proofs.Ytoobbolaoldacaa.Later Go.Proofs.Ytoobbolaoldacaa.LaterSP Go.Proofs.Ytoobbolaoldacaa.LaterP Go.Proofs.Ytoobbolaoldacaa.RowOwn Go.Proofs.Ytoobbolaoldacaa.CloneB Go.Proofs.YtoobbolaoldacaaW.PrintWords Go.Proofs.YtoobbolaoldacaaW.PrintLast Go.Proofs.YtoobbolaoldacaaW.PrintMore
set_option linter.unusedVariables false
/-- both queues; the blocks q and p are kept; v's bytes are not the reference's -/
def DS (w0 : World) (g q : Nat) (o : Obj) (p : Nat) (o2 : Obj) (L M : List Wr) (v : Value) (d : List Int) (u : World) : Prop :=
  ∃ S S', QAt u g g L S ∧ RQAt u (g + 1) (g + 1) M S' ∧ (∀ k, S k → ¬ S' k ∧ k ≠ q ∧ k ≠ p) ∧ (∀ k, S' k → k ≠ q ∧ k ≠ p) ∧ u.heap[q]? = some o ∧ u.heap[p]? = some o2 ∧ Below g w0 u ∧ Kd.R KB 5 u g (fun k => ¬ S' k) v d
def BS (w0 : World) (g : Nat) (L : List Wr) (u : World) : Prop :=
  ∃ S S', QAt u g g L S ∧ RQAt u (g + 1) (g + 1) L S' ∧ (∀ k, S k → ¬ S' k) ∧ Below g w0 u
section
variable {w0 u : World} {g q p : Nat} {o o2 : Obj} {L M A0 : List Wr} {v : Value} {d : List Int}
theorem ds_lt (h : DS w0 g q o p o2 L M v d u) : g < u.heap.size ∧ q < u.heap.size ∧ L.length ≤ 100000 ∧ M.length ≤ 100000 := by
  obtain ⟨S, S', hN, hR, hd, hd', hq, hp, hb, hv⟩ := h
  exact ⟨(rw_lt hN).2.1, lt_at hq, (rw_lt hN).2.2, (rw_lt hR).2.2⟩
theorem ds_bel (h : DS w0 g q o p o2 L M v d u) : Below g w0 u := by
  obtain ⟨S, S', hN, hR, hd, hd', hq, hp, hb, hv⟩ := h
  exact hb
theorem ds_blk (h : DS w0 g q o p o2 L M v d u) : u.heap[q]? = some o ∧ u.heap[p]? = some o2 := by
  obtain ⟨S, S', hN, hR, hd, hd', hq, hp, hb, hv⟩ := h
  exact ⟨hq, hp⟩
theorem ds_val (h : DS w0 g q o p o2 L M v d u) : ∃ A c, v = .slice A d.length c ∧ Kd.C KB u A d.length d := by
  obtain ⟨S, S', hN, hR, hd, hd', hq, hp, hb, hv⟩ := h
  obtain ⟨A, c, hv', _, hC⟩ := Kd.R_reads hv
  exact ⟨A, c, hv', hC⟩
theorem ds_below {u' : World} (h : DS w0 g q o p o2 L M v d u) (hb' : Below u.heap.size u u') : DS w0 g q o p o2 L M v d u' := by
  have hl := ds_lt h
  obtain ⟨S, S', hN, hR, hd, hd', hq, hp, hb, hv⟩ := h
  exact ⟨S, S', rw_below hN hb', rw_below hR hb', hd, hd', keep_at_all hq hb', keep_at_all hp hb', bl_to hb hb' (by omega), Kd.R_below hv hb'⟩
/-- a new block is kept from now on -/
theorem ds_alloc (h : DS w0 g q o p o2 L M v d u) (cs : Array Value) (t : TypeId) : DS w0 g q o u.heap.size (.cells cs t (0, 0)) L M v d (u.alloc (.cells cs t (0, 0))) := by
  have hl := ds_lt h
  obtain ⟨S, S', hN, hR, hd, hd', hq, hp, hb, hv⟩ := h
  have hb' : Below u.heap.size u (u.alloc (.cells cs t (0, 0))) := bl_all (Below.refl _ _) _
  have h1 := rw_S hN
  have h2 := rw_S hR
  exact ⟨S, S', rw_below hN hb', rw_below hR hb', fun k hk => ⟨(hd k hk).1, (hd k hk).2.1, by have := (h1 k hk).2; omega⟩, fun k hk => ⟨(hd' k hk).1, by have := (h2 k hk).2; omega⟩, keep_at_all hq hb', new_at _ _, bl_to hb hb' (by omega), Kd.R_below hv hb'⟩
theorem ds_bs (h : DS w0 g q o p o2 L L v d u) : BS w0 g L u := by
  obtain ⟨S, S', hN, hR, hd, hd', hq, hp, hb, hv⟩ := h
  exact ⟨S, S', hN, hR, fun k hk => (hd k hk).1, hb⟩
theorem bs_ds (h : BS w0 g L u) (cs : Array Value) (t : TypeId) : DS w0 g u.heap.size (.cells cs t (0, 0)) u.heap.size (.cells cs t (0, 0)) L L (.slice none 0 0) [] (u.alloc (.cells cs t (0, 0))) := by
  obtain ⟨S, S', hN, hR, hd, hb⟩ := h
  have hb' : Below u.heap.size u (u.alloc (.cells cs t (0, 0))) := bl_all (Below.refl _ _) _
  have h1 := rw_S hN
  have h2 := rw_S hR
  have hg := (rw_lt hN).2.1
  exact ⟨S, S', rw_below hN hb', rw_below hR hb', fun k hk => ⟨hd k hk, by have := (h1 k hk).2; omega, by have := (h1 k hk).2; omega⟩, fun k hk => ⟨by have := (h2 k hk).2; omega, by have := (h2 k hk).2; omega⟩, new_at _ _, new_at _ _, bl_to hb hb' (by omega), Kd.R_nil _ _ _ _ _⟩
theorem bs_lt (h : BS w0 g L u) : g < u.heap.size ∧ L.length ≤ 100000 := by
  obtain ⟨S, S', hN, hR, hd, hb⟩ := h
  exact ⟨(rw_lt hN).2.1, (rw_lt hN).2.2⟩
theorem bs_bel (h : BS w0 g L u) : Below g w0 u := by
  obtain ⟨S, S', hN, hR, hd, hb⟩ := h
  exact hb
theorem ds_push (x : Wr) (A : Option Addr) (c : Nat) (h : DS w0 g q o p o2 L M v d u) (hL : L.length < 100000) (hbl : x.data.length ≤ 140737488355328) (hr : Kd.C KB u A x.data.length x.data) :
    Calls Try.prog 15 #[.pointer (some ⟨g, 0, none⟩), .int .i64 x.id, .agg #[.int .i64 x.off, .int .i64 x.len], .slice A x.data.length c] u fun e w' => e = .returned (.bool true) ∧ DS w0 g q o p o2 (L ++ [x]) M (.slice none 0 0) [] w' := by
  have hlt := ds_lt h
  obtain ⟨S, S', hN, hR, hd, hd', hq, hp, hb, hv⟩ := h
  have h2 := rw_S hR
  have hp2 := lt_at hp
  refine (Push_c g g L S x A c u hN hL hbl hr).mono ?_
  rintro e w' ⟨rfl, S1, h1, hS1, ho⟩
  refine ⟨rfl, S1, S', h1, rw_only hR ho (fun k hk hs => (hd k hs).1 hk), fun k hk => ?_, hd', blk_only hq ho (fun hs => (hd q hs).2.1 rfl), blk_only hp ho (fun hs => (hd p hs).2.2 rfl), rw_bl hN ho hb, Kd.R_nil _ _ _ _ _⟩
  rcases hS1 k hk with h3 | h3
  · exact hd k h3
  · exact ⟨fun hs => by have := (h2 k hs).2; omega, by omega, by omega⟩
theorem ds_rpush (x : Wr) (A : Option Addr) (c : Nat) (h : DS w0 g q o p o2 L M v d u) (hL : M.length < 100000) (hbl : x.data.length ≤ 140737488355328) (hr : Kd.C KB u A x.data.length x.data) :
    Calls Try.prog 27 #[.pointer (some ⟨g + 1, 0, none⟩), .int .i64 x.id, .agg #[.int .i64 x.off, .int .i64 x.len], .slice A x.data.length c] u fun e w' => e = .returned (.tuple #[]) ∧ DS w0 g q o p o2 L (M ++ [x]) (.slice none 0 0) [] w' := by
  have hlt := ds_lt h
  obtain ⟨S, S', hN, hR, hd, hd', hq, hp, hb, hv⟩ := h
  have h1 := rw_S hN
  have h2 := rw_S hR
  have hp2 := lt_at hp
  refine (RPush_c (g + 1) (g + 1) M S' x A c u hR hL hbl hr).mono ?_
  rintro e w' ⟨rfl, S1, hR1, hS1, ho⟩
  refine ⟨rfl, S, S1, rw_only hN ho (fun k hk hs => (hd k hk).1 hs), hR1, fun k hk => ⟨fun hs => ?_, (hd k hk).2⟩, fun k hk => ?_, blk_only hq ho (fun hs => (hd' q hs).1 rfl), blk_only hp ho (fun hs => (hd' p hs).2 rfl), ho.to_below hb (fun k hk => by have := (h2 k hk).1; omega) (by omega), Kd.R_nil _ _ _ _ _⟩
  · rcases hS1 k hs with h3 | h3
    · exact (hd k hk).1 h3
    · have := (h1 k hk).2; omega
  · rcases hS1 k hk with h3 | h3
    · exact hd' k h3
    · exact ⟨by omega, by omega⟩
theorem ds_next (own : List S38) (A : Option Addr) (c : Nat) (h : DS w0 g q o p o2 L M v d u) (hr : Kd.C k38 u A own.length own) (hc : own.length ≤ c) :
    Calls Try.prog 16 #[.pointer (some ⟨g, 0, none⟩), .slice A own.length c] u fun e w' => ∃ v', e = .returned (.tuple #[.agg #[.int .i64 (pickN own L).id, .int .i64 (pickN own L).off, .int .i64 (pickN own L).len, v'], .bool (nextN own L).isSome]) ∧ DS w0 g q o p o2 (leftN own L) M v' (pickN own L).data w' := by
  have hlt := ds_lt h
  obtain ⟨S, S', hN, hR, hd, hd', hq, hp, hb, hv⟩ := h
  have h2 := rw_S hR
  have hp2 := lt_at hp
  refine (Next_c g g L S own A c u hN hr hc).mono ?_
  rintro e w' ⟨v', rfl, hV, S1, h1, hS1, ho⟩
  have key : ∀ k, (S k ∨ u.heap.size ≤ k) → ¬ S' k ∧ k ≠ q ∧ k ≠ p := fun k hk => by
    rcases hk with h3 | h3
    · exact hd k h3
    · exact ⟨fun hs => by have := (h2 k hs).2; omega, by omega, by omega⟩
  exact ⟨v', rfl, S1, S', h1, rw_only hR ho (fun k hk hs => (hd k hs).1 hk), fun k hk => key k (hS1 k hk), hd', blk_only hq ho (fun hs => (hd q hs).2.1 rfl), blk_only hp ho (fun hs => (hd p hs).2.2 rfl), rw_bl hN ho hb, Kd.R_mono hV (fun k hk => (key k hk).1)⟩
theorem ds_rnext (own : List S140) (A : Option Addr) (c : Nat) (h : DS w0 g q o p o2 L M v d u) (hr : Kd.C k140 u A own.length own) (hc : own.length ≤ c) (hol : own.length ≤ 100) :
    Calls Try.prog 26 #[.pointer (some ⟨g + 1, 0, none⟩), .slice A own.length c] u fun e w' => (∃ v', e = .returned (.tuple #[.agg #[.int .i64 (pickN (own.map conv) M).id, .int .i64 (pickN (own.map conv) M).off, .int .i64 (pickN (own.map conv) M).len, v'], .bool (nextN (own.map conv) M).isSome]) ∧ ∃ A' c', v' = .slice A' (pickN (own.map conv) M).data.length c' ∧ Kd.C KB w' A' (pickN (own.map conv) M).data.length (pickN (own.map conv) M).data) ∧ DS w0 g q o p o2 L (leftN (own.map conv) M) v d w' := by
  have hlt := ds_lt h
  obtain ⟨S, S', hN, hR, hd, hd', hq, hp, hb, hv⟩ := h
  have h1 := rw_S hN
  have h2 := rw_S hR
  have hp2 := lt_at hp
  refine (RNext_c (g + 1) (g + 1) M S' own A c u hR hr hc hol).mono ?_
  rintro e w' ⟨v', rfl, hV, S1, hR1, hS1, ho⟩
  obtain ⟨A', c', hv', _, hC'⟩ := Kd.R_reads hV
  refine ⟨⟨v', rfl, A', c', hv', hC'⟩, S, S1, rw_only hN ho (fun k hk hs => (hd k hk).1 hs), hR1, fun k hk => ⟨fun hs => ?_, (hd k hk).2⟩, fun k hk => ?_, blk_only hq ho (fun hs => (hd' q hs).1 rfl), blk_only hp ho (fun hs => (hd' p hs).2 rfl), ho.to_below hb (fun k hk => by have := (h2 k hk).1; omega) (by omega), ?_⟩
  · rcases hS1 k hs with h3 | h3
    · exact (hd k hk).1 h3
    · have := (h1 k hk).2; omega
  · rcases hS1 k hk with h3 | h3
    · exact hd' k h3
    · exact ⟨by omega, by omega⟩
  · refine Kd.R_mono (Kd.R_step (Kd.R_bound hv) (fun k hk hlt => ho.block k hlt hk.1)) (fun k hk hs => ?_)
    rcases hS1 k hs with h3 | h3
    · exact hk.1 h3
    · have := hk.2.2.1; omega
theorem bs_len (h : BS w0 g L u) : Calls Try.prog 17 #[.pointer (some ⟨g, 0, none⟩)] u fun e w' => e = .returned (.int .i64 (L.length : Int)) ∧ Below u.heap.size u w' := by
  obtain ⟨S, S', hN, hR, hd, hb⟩ := h
  exact (Len_c g g L S u hN).mono fun e w' ⟨he, hw⟩ => ⟨he, by subst hw; exact Below.refl _ _⟩
theorem bs_over (so sl : Int) (h : BS w0 g L u) : Calls Try.prog 28 #[.pointer (some ⟨g, 0, none⟩), .agg #[.int .i64 so, .int .i64 sl]] u fun e w' => e = .returned (.bool (overN so sl L)) ∧ Below u.heap.size u w' := by
  obtain ⟨S, S', hN, hR, hd, hb⟩ := h
  exact Over_c g g so sl L S u hN
theorem bs_rover (so sl : Int) (h : BS w0 g L u) : Calls Try.prog 29 #[.pointer (some ⟨g + 1, 0, none⟩), .agg #[.int .i64 so, .int .i64 sl]] u fun e w' => e = .returned (.bool (overN so sl L)) ∧ Below u.heap.size u w' := by
  obtain ⟨S, S', hN, hR, hd, hb⟩ := h
  exact ROver_c (g + 1) (g + 1) so sl L S' u hR
theorem bs_spans (h : BS w0 g L u) : Calls Try.prog 31 #[.pointer (some ⟨g, 0, none⟩)] u fun e w' => ∃ v, e = .returned v ∧ Kd.R k27 27 w' u.heap.size (fun _ => True) v (L.map spanOf) ∧ Below u.heap.size u w' := by
  obtain ⟨S, S', hN, hR, hd, hb⟩ := h
  exact Spans_c g g L S u hN
theorem bs_rspans (h : BS w0 g L u) : Calls Try.prog 32 #[.pointer (some ⟨g + 1, 0, none⟩)] u fun e w' => ∃ v, e = .returned v ∧ Kd.R k27 27 w' u.heap.size (fun _ => True) v (L.map spanOf) ∧ Below u.heap.size u w' := by
  obtain ⟨S, S', hN, hR, hd, hb⟩ := h
  exact RSpans_c (g + 1) (g + 1) L S' u hR
theorem bs_below {u' : World} (h : BS w0 g L u) (hb' : Below u.heap.size u u') : BS w0 g L u' := by
  have hl := bs_lt h
  obtain ⟨S, S', hN, hR, hd, hb⟩ := h
  exact ⟨S, S', rw_below hN hb', rw_below hR hb', hd, bl_to hb hb' (by omega)⟩
theorem bs_cell (h : BS w0 g L u) : ∃ A c, u.cell? ⟨g + 1, 0, none⟩ = some (.slice A L.length c) ∧ g + 1 < u.heap.size := by
  obtain ⟨S, S', hN, hR, hd, hb⟩ := h
  obtain ⟨A, c, h1, _⟩ := rq_cells hR
  exact ⟨A, c, h1, (rw_lt hR).2.1⟩
end
theorem spans_c (M : List S27) (A A' : Option Addr) (c c' : Nat) (u : World) (hM : M.length ≤ 100000) (h : Kd.C k27 u A M.length M) (hc : M.length ≤ c) (h' : Kd.C k27 u A' M.length M) (hc' : M.length ≤ c') :
    Calls Try.prog 30 #[.slice A M.length c, .slice A' M.length c'] u fun e w' => e = .returned (.bool true) ∧ Below u.heap.size u w' :=
  (twainref04_Spans.calls 100001 A c M A' c' M true u h hc h' hc' (spans_p M hM 100001 (by omega))).mono fun e w' ⟨he, hd⟩ => ⟨he, bl_drawn hd⟩
end Go.Proofs.Ytoobbolaoldacaa.LaterW
