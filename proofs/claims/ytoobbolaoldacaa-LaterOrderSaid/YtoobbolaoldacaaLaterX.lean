/-
  The program's Next.
-/
import Derived.Test.YtoobbolaoldacaaLaterI
import Derived.Test.YtoobbolaoldacaaLaterQ
import Derived.RangeFuncBox
namespace Go.Proofs.Ytoobbolaoldacaa.LaterW
open Go.RowKit Go.Proofs.Ytoobbolaoldacaa Go.Proofs.Ytoobbolaoldacaa.Later Go.Proofs.Ytoobbolaoldacaa.LaterSP Go.Proofs.Ytoobbolaoldacaa.LaterP Go.Proofs.Ytoobbolaoldacaa.RowOwn Go.Proofs.Ytoobbolaoldacaa.CloneB Go.Proofs.YtoobbolaoldacaaW.PrintWords Go.Proofs.YtoobbolaoldacaaW.PrintLast Go.Proofs.YtoobbolaoldacaaW.PrintMore
set_option linter.unusedVariables false
def noWr : Wr := ⟨0, 0, 0, []⟩
def pickN (own : List S38) (L : List Wr) : Wr := match nextN own L with | none => noWr | some i => L.getD i noWr
def leftN (own : List S38) (L : List Wr) : List Wr := match nextN own L with | none => L | some i => L.eraseIdx i
section
variable {e t : Nat} {hd : Value → Array Value} {w w1 : World} {g base : Nat} {L : List Wr} {S : Nat → Prop}
theorem row_cellsB {ok : Nat → Prop} {v : Value} (h : Row KW e w base ok v L) : Row KW e w base (fun k => ok k ∧ ∃ cs q, w.heap[k]? = some (.cells cs q (0, 0))) v L := by
  rcases h with h | ⟨g, c, rfl, h⟩
  · exact .inl (Kd.R_mono (Kd.R_bound h) (fun k hk => ⟨hk.1, by obtain ⟨_, _, _, q, _, cs, hc⟩ := hk; exact ⟨cs, q, hc⟩⟩))
  · exact .inr ⟨g, c, rfl, Kd.R_mono (Kd.R_bound h) (fun k hk => ⟨hk.1, by obtain ⟨_, _, _, q, _, cs, hc⟩ := hk; exact ⟨cs, q, hc⟩⟩)⟩
theorem R_cellsB {α : Type} {d : Kd α} {e : Nat} {ok : Nat → Prop} {v : Value} {xs : List α} (h : Kd.R d e w base ok v xs) : Kd.R d e w base (fun k => ok k ∧ ∃ cs q, w.heap[k]? = some (.cells cs q (0, 0))) v xs :=
  Kd.R_mono (Kd.R_bound h) (fun k hk => ⟨hk.1, by obtain ⟨_, _, _, q, _, cs, hc⟩ := hk; exact ⟨cs, q, hc⟩⟩)
/-- the turn of a block that is no cells leaves it as it is -/
theorem rw_turn {row : Option Nat} (h : RowAt e t hd w g base L S) (hg : w.grownBy w1 row) (hr : ∀ r, row = some r → ∃ o : Obj, w.heap[r]? = some o ∧ o.isCells = false) :
    ∃ S', RowAt e t hd w1 g base L S' ∧ ∀ k, S' k → S k := by
  obtain ⟨v, ok, hh, hrow, hS, hb, hd', hl, hn⟩ := h
  have ne : ∀ (k : Nat) (cs : Array Value) (q : TypeId), w.heap[k]? = some (.cells cs q (0, 0)) → some k ≠ row := by
    intro k cs q hk he
    obtain ⟨o, ho, hc⟩ := hr k he.symm
    rw [hk] at ho
    cases ho
    cases hc
  have hrow' := row_cellsB hrow
  refine ⟨fun k => S k ∧ k < w.heap.size, ⟨v, _, (hg.block g (lt_at hh) (ne g _ _ hh)).trans hh, row_step (row_bound hrow') (fun k hk hlt => hg.block k hlt (by obtain ⟨⟨_, cs, q, hc⟩, _⟩ := hk; exact ne k cs q hc)), ⟨hS, lt_at hh⟩, hb, fun k hk => ⟨⟨(hd' k hk.1.1).1, hk.2.2⟩, (hd' k hk.1.1).2⟩, fun k hk => ⟨(hl k hk.1).1, Nat.lt_of_lt_of_le hk.2 hg.size⟩, hn⟩, fun k hk => hk.1⟩
end
theorem only_turn {S : Nat → Prop} {w0 w w1 : World} {row : Option Nat} (h : OnlyS S w0 w) (hg : w.grownBy w1 row) (hr : ∀ r, row = some r → w0.heap.size ≤ r) : OnlyS S w0 w1 := h.grown hg (fun k hk => .inr (hr k hk))
theorem keeps_of_only {T : Nat → Prop} {B : Nat} {W W' : World} (h : OnlyS T W W') (hT : ∀ k o, T k → W.heap[k]? = some o → o.isCells = true) : KeepsFrom B W W' :=
  ⟨h.size, fun i o _ hi ho => (h.block i (lt_at hi) (fun ht => by rw [hT i o ht hi] at ho; cases ho)).trans hi⟩
/-- what a Next that finds one leaves -/
def NextAt (w : World) (rb : Nat) (g base : Nat) (S : Nat → Prop) (x : Wr) (M : List Wr) (W : World) : Prop :=
  ∃ v S', W.heap[rb]? = some (.cells #[.int .i64 x.id, .int .i64 x.off, .int .i64 x.len, v] 34 (0, 0)) ∧ W.heap[rb + 1]? = some (.cells #[.bool true] 4 (0, 0)) ∧ Kd.R KB 5 W base (fun k => S k ∨ w.heap.size ≤ k) v x.data ∧ QAt W g base M S' ∧ (∀ k, S' k → S k ∨ w.heap.size ≤ k) ∧ OnlyS S w W
theorem next_own {w : World} {rb : Nat} {g base : Nat} {S : Nat → Prop} {x : Wr} {M : List Wr} {B : Nat} (hB : w.heap.size ≤ B) : OwnFrom B (fun (_ : Unit) => NextAt w rb g base S x M) := by
  rintro _ W W1 row ⟨v, S', h1, h2, h3, h4, h5, h6⟩ hg hr
  have hc : ∀ r, row = some r → ∃ o : Obj, W.heap[r]? = some o ∧ o.isCells = false := fun r e => (hr r e).2
  have ne : ∀ (k : Nat) (cs : Array Value) (q : TypeId), W.heap[k]? = some (.cells cs q (0, 0)) → some k ≠ row := by
    intro k cs q hk he
    obtain ⟨o, ho, hc⟩ := hc k he.symm
    rw [hk] at ho
    cases ho
    cases hc
  obtain ⟨S2, q1, q2⟩ := rw_turn h4 hg hc
  exact ⟨v, S2, (hg.block rb (lt_at h1) (ne _ _ _ h1)).trans h1, (hg.block (rb + 1) (lt_at h2) (ne _ _ _ h2)).trans h2, Kd.R_mono (Kd.R_step (Kd.R_bound (R_cellsB h3)) (fun k hk hlt => hg.block k hlt (by obtain ⟨⟨_, cs, q, hc⟩, _⟩ := hk; exact ne k cs q hc))) (fun k hk => hk.1.1), q1, fun k hk => h5 k (q2 k hk), only_turn h6 hg (fun r e => Nat.le_trans hB (hr r e).1)⟩
section
attribute [local go_sem] Oper.semAt_some
set_option maxRecDepth 100000 in
set_option maxHeartbeats 4000000 in
theorem Next_c (g base : Nat) (L : List Wr) (S : Nat → Prop) (own : List S38) (Ao : Option Addr) (co : Nat) (w : World) (h : QAt w g base L S) (hC : Kd.C k38 w Ao own.length own) (hco : own.length ≤ co) :
    Calls Try.prog 16 #[.pointer (some ⟨g, 0, none⟩), .slice Ao own.length co] w fun e w' => ∃ v, e = .returned (.tuple #[.agg #[.int .i64 (pickN own L).id, .int .i64 (pickN own L).off, .int .i64 (pickN own L).len, v], .bool (nextN own L).isSome]) ∧ Kd.R KB 5 w' base (fun k => S k ∨ w.heap.size ≤ k) v (pickN own L).data ∧ ∃ S', QAt w' g base (leftN own L) S' ∧ (∀ k, S' k → S k ∨ w.heap.size ≤ k) ∧ OnlyS S w w' := by
  have hgl := rw_lt h
  have hu := Try.underlying34
  refine (callsIn_wide (n := 3)).1 ?_
  refine callsIn_of_wp_marks Try.func16 rfl trivial ?_ rfl
  simp only [Try.ntmps16, List.size_toArray, List.length_cons, List.length_nil, Nat.reduceAdd, Nat.reduceSub, Array.replicate_succ, Array.replicate_zero, List.push_toArray, List.append_toArray, List.nil_append, List.cons_append]
  have hbl3 : Below w.heap.size w (((w.alloc (.cells #[.pointer (some ⟨g, 0, none⟩)] 24)).alloc (.cells #[.int .i64 0, .int .i64 0, .int .i64 0, .slice none 0 0] 34)).alloc (.cells #[.bool false] 4)) := bl_all (bl_all (bl_all (Below.refl _ _) _) _) _
  have I := Lib.hid (is_c g true _ (q_cells (rw_below h hbl3)).1)
  have HH := Lib.hid h
  have HCO := Lib.hid hC
  have HB3 := Lib.hid hbl3
  clear h hC hbl3
  gi_wp2_with fail
  refine ⟨trivial, (callsIn_wide.2 I.out).mono ?_⟩
  rintro e w' ⟨rfl, rfl⟩
  gi_wp2_with fail
  refine ⟨trivial, (callsIn_wide.2 (free_c g Ao own.length co _)).mono ?_⟩
  rintro e w' ⟨rfl, rfl⟩
  have a0 : (((w.alloc (.cells #[.pointer (some ⟨g, 0, none⟩)] 24)).alloc (.cells #[.int .i64 0, .int .i64 0, .int .i64 0, .slice none 0 0] 34)).alloc (.cells #[.bool false] 4)).heap[w.heap.size]? = some (.cells #[.pointer (some ⟨g, 0, none⟩)] 24 (0, 0)) := old_at (old_at (new_at _ _) _) _
  have a1 : (((w.alloc (.cells #[.pointer (some ⟨g, 0, none⟩)] 24)).alloc (.cells #[.int .i64 0, .int .i64 0, .int .i64 0, .slice none 0 0] 34)).alloc (.cells #[.bool false] 4)).heap[w.heap.size + 1]? = some (.cells #[.int .i64 0, .int .i64 0, .int .i64 0, .slice none 0 0] 34 (0, 0)) := old_at (new_at1 _ _ _) _
  have a2 : (((w.alloc (.cells #[.pointer (some ⟨g, 0, none⟩)] 24)).alloc (.cells #[.int .i64 0, .int .i64 0, .int .i64 0, .slice none 0 0] 34)).alloc (.cells #[.bool false] 4)).heap[w.heap.size + 2]? = some (.cells #[.bool false] 4 (0, 0)) := new_at2 _ _ _ _
  have az : (((w.alloc (.cells #[.pointer (some ⟨g, 0, none⟩)] 24)).alloc (.cells #[.int .i64 0, .int .i64 0, .int .i64 0, .slice none 0 0] 34)).alloc (.cells #[.bool false] 4)).heap.size = w.heap.size + 3 := by simp
  generalize ((w.alloc (.cells #[.pointer (some ⟨g, 0, none⟩)] 24)).alloc (.cells #[.int .i64 0, .int .i64 0, .int .i64 0, .slice none 0 0] 34)).alloc (.cells #[.bool false] 4) = W3 at a0 a1 a2 az HB3 I ⊢
  clear I
  rw [az]
  have hb4 : Below w.heap.size w ((W3.alloc (.cells #[.pointer (some ⟨g, 0, none⟩)] 24)).alloc (.cells #[.slice Ao own.length co] 39)) := bl_all (bl_all HB3.out _) _
  have c0 := old_at (old_at a0 (.cells #[.pointer (some ⟨g, 0, none⟩)] 24)) (.cells #[.slice Ao own.length co] 39)
  have c1 := old_at (old_at a1 (.cells #[.pointer (some ⟨g, 0, none⟩)] 24)) (.cells #[.slice Ao own.length co] 39)
  have c2 := old_at (old_at a2 (.cells #[.pointer (some ⟨g, 0, none⟩)] 24)) (.cells #[.slice Ao own.length co] 39)
  have c3 := old_at (new_at W3 (.cells #[.pointer (some ⟨g, 0, none⟩)] 24)) (.cells #[.slice Ao own.length co] 39)
  have c4 := new_at1 W3 (.cells #[.pointer (some ⟨g, 0, none⟩)] 24) (.cells #[.slice Ao own.length co] 39)
  have c5 : ((W3.alloc (.cells #[.pointer (some ⟨g, 0, none⟩)] 24)).alloc (.cells #[.slice Ao own.length co] 39)).heap.size = w.heap.size + 5 := by simp [az]
  rw [az] at c3 c4
  generalize (W3.alloc (.cells #[.pointer (some ⟨g, 0, none⟩)] 24)).alloc (.cells #[.slice Ao own.length co] 39) = W5 at c0 c1 c2 c3 c4 c5 hb4 ⊢
  clear a0 a1 a2 az HB3
  have hQ5 := rw_below HH.out hb4
  have C0 := Lib.hid c0
  have C1 := Lib.hid c1
  have C2 := Lib.hid c2
  have HB4 := Lib.hid hb4
  gi_wp2_with fail
  refine wpIn_range_first rfl (by omega) (gf := 96) (lb := #[.pointer (some ⟨w.heap.size + 3, 0, none⟩), .pointer (some ⟨w.heap.size + 4, 0, none⟩)]) rfl trivial (enters_of Try.func96 (by kernel_rfl) rfl)
    (free_first _ (w.heap.size + 3) g base L S own Ao co W5 hQ5 (Kd.C_below HCO.out hb4) hco c3 c4) (fun _ => rfl)
    (fun W => Below W5.heap.size W5 W) (fun k => NextAt w (w.heap.size + 1) g base S (L.getD k noWr) (L.eraseIdx k)) ?hI ?hIx (Below.refl _ _)
    (fun k => { tmps := #[.pointer (some ⟨g, 0, none⟩), .slice Ao own.length co, .pointer (some ⟨w.heap.size, 0, none⟩), undef, .pointer (some ⟨w.heap.size + 1, 0, none⟩), .pointer (some ⟨w.heap.size + 2, 0, none⟩), .int .i64 (k : Int), undef, .pointer (some ⟨g, 0, none⟩), .bool true, .bool false, undef, .pointer (some ⟨g, 0, none⟩), .slice Ao own.length co, .func (.func 96) #[] #[.pointer (some ⟨w.heap.size + 3, 0, none⟩), .pointer (some ⟨w.heap.size + 4, 0, none⟩)], .int .i64 (k : Int), undef, undef, undef, undef, undef, undef, undef, undef, undef, undef, undef, undef, undef, undef, undef, undef, undef, undef, undef, undef, undef, undef, undef, undef, undef, undef, undef], defers := [] }) ?assign ?body ?done ?stop
  case hI => exact ownFrom_below (Nat.le_refl _) (by omega)
  case hIx => exact fun k => next_own (by omega)
  case assign =>
    intro l k W K hK
    gi_wp2
    exact hK
  case body =>
    intro l k W hk hI
    have hkL : k < L.length := (List.findIdx?_eq_some_iff_getElem.1 hk).1
    have hQW := rw_below HH.out (bl_to HB4.out hI (by omega))
    obtain ⟨v0, ok0, hh, h0, hS, hb, d0, hl, hn⟩ := hQW
    obtain ⟨ad, D, cd, ⟨cv, hev, hcv⟩, x0, x1, x2, x3, hRD⟩ := at_row h0 k hkL
    subst hev
    obtain ⟨gr, had⟩ := row_head_g h0 (by omega)
    injection had with had
    have hkL' : (k : Int) < (L.length : Int) := by omega
    have e0 := keep_at_all C0.out hI
    have e1 := keep_at_all C1.out hI
    have e2 := keep_at_all C2.out hI
    have q0 : W.cell? ⟨w.heap.size, 0, none⟩ = some (.pointer (some ⟨g, 0, none⟩)) := blk_cell e0 0
    have q1 : W.cell? ⟨g, 1, none⟩ = some (.slice (some ad) L.length cv) := blk_cell hh 1
    have HAD := Lib.hid had
    have E0 := Lib.hid e0
    have E1 := Lib.hid e1
    have E2 := Lib.hid e2
    have HHH := Lib.hid hh
    have HR0 := Lib.hid h0
    have HRD := Lib.hid hRD
    have HD0 := Lib.hid d0
    have HLL := Lib.hid hl
    have HI := Lib.hid hI
    have hx : L.getD k noWr = L[k] := by rw [List.getD_eq_getElem?_getD, List.getElem?_eq_getElem hkL]; rfl
    rw [hx]
    clear had e0 e1 e2 hh h0 hRD d0 hl hI hk hx
    generalize L[k] = x at x0 x1 x2 x3 HRD ⊢
    gi_wp2_with fail
    generalize hWb : W.alloc (.cells #[.int .i64 x.id, .int .i64 x.off, .int .i64 x.len, .slice D x.data.length cd] 34) = Wb
    have hbb : Below W.heap.size W Wb := by rw [← hWb]; exact bl_all (Below.refl _ _) _
    have hnw : Wb.heap[W.heap.size]? = some (.cells #[.int .i64 x.id, .int .i64 x.off, .int .i64 x.len, .slice D x.data.length cd] 34 (0, 0)) := by rw [← hWb]; exact new_at _ _
    have HBB := Lib.hid hbb
    have HNW := Lib.hid hnw
    have b0 := keep_at_all E0.out hbb
    have b1 := keep_at_all HHH.out hbb
    have hS0 : Wb.drew.cell? ⟨w.heap.size, 0, none⟩ = some (.pointer (some ⟨g, 0, none⟩)) ∧ Wb.drew.cell? ⟨g, 1, none⟩ = some (.slice (some ad) L.length cv) := ⟨blk_cell (w := Wb.drew) b0 0, blk_cell (w := Wb.drew) b1 1⟩
    have qk1 : (k : Int) ≤ (cv : Int) := by omega
    have qk2 : (k : Int) + 1 ≤ (L.length : Int) := by omega
    have qk3 : (0 : Int) ≤ (k : Int) + 1 := by omega
    have qk4 : (0 : Int) ≤ (k : Int) := by omega
    have hwr : IntKind.i64.wrap ((k : Int) + 1) = (k : Int) + 1 := by have h := IntKind.wrap_i64 ((k : Int) + 1); rw [h]; omega
    have hnt : ((k : Int) + 1).toNat = k + 1 := by omega
    clear hWb hbb hnw b0 b1 x0 x1 x2 x3 q0 q1
    generalize hqb : W.heap.size = qb at HNW ⊢
    have HQB := Lib.hid hqb
    clear hqb
    refine startIn_ (S := fun w' => w'.cell? ⟨w.heap.size, 0, none⟩ = some (.pointer (some ⟨g, 0, none⟩)) ∧ w'.cell? ⟨g, 1, none⟩ = some (.slice (some ad) L.length cv)) (ds := [18]) l _ (n := 19) #[false, false, false, false, false, false, false, false, false, false, false, false, false, false, false, false, false, false, false] (by kernel_rfl) (by rintro ⟨a, w, h⟩; exact h) (by kernel_rfl) rfl rfl hS0 (fun hHeld => ?_)
    refine take_ (i := 0) (N := some 23) (v := ?_) (a' := ?_) #[true, false, false, false, false, false, false, false, false, false, false, false, false, false, false, false, false, false, false] rfl rfl (by kernel_rfl) (fun _ _ _ h => h) (Or.inl ⟨by rfl, ?_⟩) hHeld ?_ ?_
    rotate_left
    · rintro w' ⟨s0, s1⟩
      go_simp
      with_reducible rfl
    rotate_left
    · simp only [Act.put, List.setIfInBounds_toArray, List.set_cons_zero, List.set_cons_succ, i64_w, i32_w]
      rfl
    refine take_ (i := 1) (N := some 24) (v := ?_) (a' := ?_) #[true, true, false, false, false, false, false, false, false, false, false, false, false, false, false, false, false, false, false] rfl rfl (by kernel_rfl) (fun _ _ _ h => h) (Or.inl ⟨by rfl, ?_⟩) hHeld ?_ ?_
    rotate_left
    · rintro w' ⟨s0, s1⟩
      go_simp
      with_reducible rfl
    rotate_left
    · simp only [Act.put, List.setIfInBounds_toArray, List.set_cons_zero, List.set_cons_succ, i64_w, i32_w]
      rfl
    refine pure_ (i := 2) (N := some 25) (v := ?_) (a' := ?_) #[true, true, true, false, false, false, false, false, false, false, false, false, false, false, false, false, false, false, false] rfl rfl (by kernel_rfl) (fun _ _ _ h => h) (Or.inl ⟨by rfl, ?_⟩) ?_ ?_
    rotate_left
    · intro w'
      go_simp
      with_reducible rfl
    rotate_left
    · simp only [Act.put, List.setIfInBounds_toArray, List.set_cons_zero, List.set_cons_succ, i64_w, i32_w]
      rfl
    refine pure_ (i := 3) (N := some 26) (v := ?_) (a' := ?_) #[true, true, true, true, false, false, false, false, false, false, false, false, false, false, false, false, false, false, false] rfl rfl (by kernel_rfl) (fun _ _ _ h => h) (Or.inl ⟨by rfl, ?_⟩) ?_ ?_
    rotate_left
    · intro w'
      go_simp
      with_reducible rfl
    rotate_left
    · simp only [Act.put, List.setIfInBounds_toArray, List.set_cons_zero, List.set_cons_succ, i64_w, i32_w]
      rfl
    refine take_ (i := 4) (N := some 27) (v := ?_) (a' := ?_) #[true, true, true, true, true, false, false, false, false, false, false, false, false, false, false, false, false, false, false] rfl rfl (by kernel_rfl) (fun _ _ _ h => h) (Or.inl ⟨by rfl, ?_⟩) hHeld ?_ ?_
    rotate_left
    · rintro w' ⟨s0, s1⟩
      go_simp
      with_reducible rfl
    rotate_left
    · simp only [Act.put, List.setIfInBounds_toArray, List.set_cons_zero, List.set_cons_succ, i64_w, i32_w]
      rfl
    refine pure_ (i := 5) (N := some 28) (v := ?_) (a' := ?_) #[true, true, true, true, true, true, false, false, false, false, false, false, false, false, false, false, false, false, false] rfl rfl (by kernel_rfl) (fun _ _ _ h => h) (Or.inl ⟨by rfl, ?_⟩) ?_ ?_
    rotate_left
    · intro w'
      go_simp
      with_reducible rfl
    rotate_left
    · simp only [Act.put, List.setIfInBounds_toArray, List.set_cons_zero, List.set_cons_succ, i64_w, i32_w]
      rfl
    refine pure_ (i := 6) (N := some 29) (v := ?_) (a' := ?_) #[true, true, true, true, true, true, true, false, false, false, false, false, false, false, false, false, false, false, false] rfl rfl (by kernel_rfl) (fun _ _ _ h => h) (Or.inl ⟨by rfl, ?_⟩) ?_ ?_
    rotate_left
    · intro w'
      go_simp
      with_reducible rfl
    rotate_left
    · simp only [Act.put, List.setIfInBounds_toArray, List.set_cons_zero, List.set_cons_succ, i64_w, i32_w]
      rfl
    refine pure_ (i := 7) (N := some 30) (v := ?_) (a' := ?_) #[true, true, true, true, true, true, true, true, false, false, false, false, false, false, false, false, false, false, false] rfl rfl (by kernel_rfl) (fun _ _ _ h => h) (Or.inl ⟨by rfl, ?_⟩) ?_ ?_
    rotate_left
    · intro w'
      go_simp
      with_reducible rfl
    rotate_left
    · simp only [Act.put, List.setIfInBounds_toArray, List.set_cons_zero, List.set_cons_succ, i64_w, i32_w]
      rfl
    refine take_ (i := 8) (N := some 31) (v := ?_) (a' := ?_) #[true, true, true, true, true, true, true, true, true, false, false, false, false, false, false, false, false, false, false] rfl rfl (by kernel_rfl) (fun _ _ _ h => h) (Or.inl ⟨by rfl, ?_⟩) hHeld ?_ ?_
    rotate_left
    · rintro w' ⟨s0, s1⟩
      go_simp
      with_reducible rfl
    rotate_left
    · simp only [Act.put, List.setIfInBounds_toArray, List.set_cons_zero, List.set_cons_succ, i64_w, i32_w]
      rfl
    refine pure_ (i := 9) (N := some 32) (v := ?_) (a' := ?_) #[true, true, true, true, true, true, true, true, true, true, false, false, false, false, false, false, false, false, false] rfl rfl (by kernel_rfl) (fun _ _ _ h => h) (Or.inl ⟨by rfl, ?_⟩) ?_ ?_
    rotate_left
    · intro w'
      go_simp
      with_reducible rfl
    rotate_left
    · simp only [Act.put, List.setIfInBounds_toArray, List.set_cons_zero, List.set_cons_succ, i64_w, i32_w]
      rfl
    refine pure_ (i := 10) (N := some 33) (v := ?_) (a' := ?_) #[true, true, true, true, true, true, true, true, true, true, true, false, false, false, false, false, false, false, false] rfl rfl (by kernel_rfl) (fun _ _ _ h => h) (Or.inl ⟨by rfl, ?_⟩) ?_ ?_
    rotate_left
    · intro w'
      go_simp
      with_reducible rfl
    rotate_left
    · simp only [Act.put, List.setIfInBounds_toArray, List.set_cons_zero, List.set_cons_succ, i64_w, i32_w]
      rfl
    refine take_ (i := 11) (N := some 34) (v := ?_) (a' := ?_) #[true, true, true, true, true, true, true, true, true, true, true, true, false, false, false, false, false, false, false] rfl rfl (by kernel_rfl) (fun _ _ _ h => h) (Or.inl ⟨by rfl, ?_⟩) hHeld ?_ ?_
    rotate_left
    · rintro w' ⟨s0, s1⟩
      go_simp
      with_reducible rfl
    rotate_left
    · simp only [Act.put, List.setIfInBounds_toArray, List.set_cons_zero, List.set_cons_succ, i64_w, i32_w]
      rfl
    refine pure_ (i := 12) (N := some 35) (v := ?_) (a' := ?_) #[true, true, true, true, true, true, true, true, true, true, true, true, true, false, false, false, false, false, false] rfl rfl (by kernel_rfl) (fun _ _ _ h => h) (Or.inl ⟨by rfl, ?_⟩) ?_ ?_
    rotate_left
    · intro w'
      go_simp
      with_reducible rfl
    rotate_left
    · simp only [Act.put, List.setIfInBounds_toArray, List.set_cons_zero, List.set_cons_succ, i64_w, i32_w]
      rfl
    refine pure_ (i := 13) (N := some 36) (v := ?_) (a' := ?_) #[true, true, true, true, true, true, true, true, true, true, true, true, true, true, false, false, false, false, false] rfl rfl (by kernel_rfl) (fun _ _ _ h => h) (Or.inl ⟨by rfl, ?_⟩) ?_ ?_
    rotate_left
    · intro w'
      go_simp
      with_reducible rfl
    rotate_left
    · simp only [Act.put, List.setIfInBounds_toArray, List.set_cons_zero, List.set_cons_succ, i64_w, i32_w]
      rfl
    refine pure_ (i := 14) (N := some 37) (v := ?_) (a' := ?_) #[true, true, true, true, true, true, true, true, true, true, true, true, true, true, true, false, false, false, false] rfl rfl (by kernel_rfl) (fun _ _ _ h => h) (Or.inl ⟨by rfl, ?_⟩) ?_ ?_
    rotate_left
    · intro w'
      go_simp
      with_reducible rfl
    rotate_left
    · simp only [Act.put, List.setIfInBounds_toArray, List.set_cons_zero, List.set_cons_succ, i64_w, i32_w]
      rfl
    refine one_ (i := 15) (N := some 38) #[true, true, true, true, true, true, true, true, true, true, true, true, true, true, true, true, false, false, false] rfl rfl (by kernel_rfl) (by decide) (fun K hK => ?_)
    have hbd : Below W.heap.size W Wb.drew := bl_drew HBB.out 1
    have hrow : Row KW 34 Wb.drew base (fun q => ok0 q ∨ Wb.heap.size ≤ q) (.slice (some ad) L.length cv) L := row_mono (row_step HR0.out (fun q hq hlt => hbd.block q hlt)) (fun q hq => .inl hq)
    have hmade : Made KW Wb.drew base (fun q => (ok0 q ∨ Wb.heap.size ≤ q) ∧ q ≠ gr) (if cv = k + 1 then some ad else some (ad.add ((k + 1) * 4))) (L.length - (k + 1)) (L.drop (k + 1)) := by
      obtain ⟨A', c', he, hm⟩ := row_made hrow
      injection he with h1 h2 h3
      subst h1
      subst h3
      have hm2 := made_drop hm (i := k + 1) (c := cv) (by omega) hcv
      exact made_mono hm2 (fun q hq => ⟨hq.1, fun he => hq.2 (by subst he; rw [HAD.out]; rfl)⟩)
    refine cut_append_step (d := KW) (base := base) (w := Wb.drew) (xs := L) (ys := L.drop (k + 1)) (g := gr) (c := cv) (i := k) (m := L.length - (k + 1)) (c2 := cv - (k + 1)) (A := if cv = k + 1 then some ad else some (ad.add ((k + 1) * 4))) (ok := fun q => ok0 q ∨ Wb.heap.size ≤ q) rfl (.tmp 30) (.tmp 37) 71 34 (.agg #[.int .i64 0, .int .i64 0, .int .i64 0, .slice none 0 0]) 48 rfl Try.underlying71 info34 rfl (by decide) (by omega) (HAD.out ▸ rfl) rfl (HAD.out ▸ hrow) (by omega) hmade (fun q hq => .inr hq) ?_ (by omega) ?_
    · show base ≤ Wb.heap.size
      have h1 := HBB.out.size
      have h2 := lt_at HHH.out
      omega
    intro v5 w5 hrow5 hgr5
    have hW5 : Below Wb.heap.size Wb w5 := ⟨hgr5.os, hgr5.tape, hgr5.output, hgr5.size, fun q hq => hgr5.block q hq (by simp)⟩
    have hb5 : Below W.heap.size W w5 := bl_to HBB.out hW5 HBB.out.size
    refine hK.out _ _ ⟨blk_cell (keep_at_all E0.out hb5) 0, blk_cell (keep_at_all HHH.out hb5) 1⟩ (fun hHeld => ?_)
    clear hK K hmade hrow hbd
    refine norm_ (a' := ?_) ?_ ?_
    rotate_left
    · show Act.put _ (some 38) _ = _
      simp only [Act.put, List.setIfInBounds_toArray, List.set_cons_zero, List.set_cons_succ]
      rfl
    refine pure_ (i := 16) (N := some 39) (v := ?_) (a' := ?_) #[true, true, true, true, true, true, true, true, true, true, true, true, true, true, true, true, true, false, false] rfl rfl (by kernel_rfl) (fun _ _ _ h => h) (Or.inl ⟨by rfl, ?_⟩) ?_ ?_
    rotate_left
    · intro w'
      go_simp
      with_reducible rfl
    rotate_left
    · simp only [Act.put, List.setIfInBounds_toArray, List.set_cons_zero, List.set_cons_succ, i64_w, i32_w]
      rfl
    refine pure_ (i := 17) (N := some 40) (v := ?_) (a' := ?_) #[true, true, true, true, true, true, true, true, true, true, true, true, true, true, true, true, true, true, false] rfl rfl (by kernel_rfl) (fun _ _ _ h => h) (Or.inl ⟨by rfl, ?_⟩) ?_ ?_
    rotate_left
    · intro w'
      go_simp
      with_reducible rfl
    rotate_left
    · simp only [Act.put, List.setIfInBounds_toArray, List.set_cons_zero, List.set_cons_succ, i64_w, i32_w]
      rfl
    obtain ⟨A6, c6, hv5, _, _⟩ := row_reads hrow5
    generalize (L.take k ++ L.drop (k + 1)).length = n6 at hv5
    subst hv5
    have hc6 : w5.cell? ⟨g, 1, none⟩ = some (.slice (some ad) L.length cv) := hHeld.2
    have hf6 : w5.frozen? ⟨g, 1, none⟩ = false := blk_frozen (keep_at_all HHH.out hb5) 1
    refine last_ (i := 18) (N := none) #[true, true, true, true, true, true, true, true, true, true, true, true, true, true, true, true, true, true, true] rfl rfl (by kernel_rfl) (by decide) (fun K hK => ?_)
    go_simp
    refine hK.out _ _ ?_
    clear hK K
    refine done_ (by kernel_rfl) ?_
    have hlr : (L.take k ++ L.drop (k + 1)).length ≤ 100000 := by rw [List.length_append, List.length_take, List.length_drop]; omega
    obtain ⟨S6, p1, p2, p3⟩ := rw_put (g := g) (base := base) (S := S) (w := W) (W := Wb.drew) (j := 1) (hd := hdQ) (e := 34) (t := 73) (fun _ _ => rfl) (by decide) HHH.out hS hb HD0.out HLL.out (bl_drew HBB.out 1) hgr5 (fun q hq => by cases hq) (fun q hq => by rcases hq with hq | hq; exact .inl hq; have := HBB.out.size; exact .inr (by omega)) hrow5 hlr
    rw [← List.eraseIdx_eq_take_drop_succ] at p1
    have hgn : g < w.heap.size := hgl.2.1
    have hqb := HQB.out
    have hsW : w.heap.size + 5 ≤ W.heap.size := by have := HI.out.size; omega
    have hnS : ∀ q, w.heap.size ≤ q → ¬ S q ∨ W.heap.size ≤ q := fun q hq => by
      by_cases h : S q
      · have := (rw_S HH.out q h).2; omega
      · exact .inl h
    have t1 := far_at (keep_at_all E1.out hb5) (p := ⟨g, 1, none⟩) (by show w.heap.size + 1 ≠ g; omega) (.slice A6 n6 c6)
    have t2 := far_at (keep_at_all E2.out hb5) (p := ⟨g, 1, none⟩) (by show w.heap.size + 2 ≠ g; omega) (.slice A6 n6 c6)
    have t3 := far_at (keep_at_all HNW.out hW5) (p := ⟨g, 1, none⟩) (by show qb ≠ g; omega) (.slice A6 n6 c6)
    have hO6 : OnlyS (fun q => q = g ∨ q = w.heap.size + 1 ∨ q = w.heap.size + 2) W (w5.setCell ⟨g, 1, none⟩ (.slice A6 n6 c6)) := (OnlyS.of_below hb5).set _ _ (.inl (.inl rfl))
    generalize w5.setCell ⟨g, 1, none⟩ (.slice A6 n6 c6) = w6 at p1 p3 t1 t2 t3 hO6 ⊢
    have y0 : w6.cell? ⟨qb, 0, none⟩ = some (.int .i64 x.id) := blk_cell t3 0
    have y1 : w6.cell? ⟨qb, 1, none⟩ = some (.int .i64 x.off) := blk_cell t3 1
    have y2 : w6.cell? ⟨qb, 2, none⟩ = some (.int .i64 x.len) := blk_cell t3 2
    have y3 : w6.cell? ⟨qb, 3, none⟩ = some (.slice D x.data.length cd) := blk_cell t3 3
    have z0 : w6.cell? ⟨w.heap.size + 1, 0, none⟩ = some (.int .i64 0) := blk_cell t1 0
    have z1 : w6.cell? ⟨w.heap.size + 1, 1, none⟩ = some (.int .i64 0) := blk_cell t1 1
    have z2 : w6.cell? ⟨w.heap.size + 1, 2, none⟩ = some (.int .i64 0) := blk_cell t1 2
    have z3 : w6.cell? ⟨w.heap.size + 1, 3, none⟩ = some (.slice none 0 0) := blk_cell t1 3
    have z4 : w6.cell? ⟨w.heap.size + 2, 0, none⟩ = some (.bool false) := blk_cell t2 0
    have f0 : w6.frozen? ⟨w.heap.size + 1, 0, none⟩ = false := blk_frozen t1 0
    have f1 : w6.frozen? ⟨w.heap.size + 1, 1, none⟩ = false := blk_frozen t1 1
    have f2 : w6.frozen? ⟨w.heap.size + 1, 2, none⟩ = false := blk_frozen t1 2
    have f3 : w6.frozen? ⟨w.heap.size + 1, 3, none⟩ = false := blk_frozen t1 3
    have f4 : w6.frozen? ⟨w.heap.size + 2, 0, none⟩ = false := blk_frozen t2 0
    have HT1 := Lib.hid t1
    have HT2 := Lib.hid t2
    have HP1 := Lib.hid p1
    have HP2 := Lib.hid p2
    have HP3 := Lib.hid p3
    have HO6 := Lib.hid hO6
    have HNS := Lib.hid hnS
    clear t1 t2 t3 p1 p2 p3 hO6 hnS hrow5 hgr5 hHeld hc6 hf6 hqb hlr hS0
    generalize (if cv = k + 1 then some ad else some (ad.add ((k + 1) * 4))) = A9
    gi_wp2_with fail
    have u1 := far_at (set_at (set_at (set_at (set_at HT1.out 0 (.int .i64 x.id)) 1 (.int .i64 x.off)) 2 (.int .i64 x.len)) 3 (.slice D x.data.length cd)) (p := ⟨w.heap.size + 2, 0, none⟩) (by show w.heap.size + 1 ≠ w.heap.size + 2; omega) (.bool true)
    have u2 := set_at (far_at (far_at (far_at (far_at HT2.out (p := ⟨w.heap.size + 1, 0, none⟩) (by show w.heap.size + 2 ≠ w.heap.size + 1; omega) (.int .i64 x.id)) (p := ⟨w.heap.size + 1, 1, none⟩) (by show w.heap.size + 2 ≠ w.heap.size + 1; omega) (.int .i64 x.off)) (p := ⟨w.heap.size + 1, 2, none⟩) (by show w.heap.size + 2 ≠ w.heap.size + 1; omega) (.int .i64 x.len)) (p := ⟨w.heap.size + 1, 3, none⟩) (by show w.heap.size + 2 ≠ w.heap.size + 1; omega) (.slice D x.data.length cd)) 0 (.bool true)
    have hO7 : OnlyS (fun q => q = w.heap.size + 1 ∨ q = w.heap.size + 2) w6 (((((w6.setCell ⟨w.heap.size + 1, 0, none⟩ (.int .i64 x.id)).setCell ⟨w.heap.size + 1, 1, none⟩ (.int .i64 x.off)).setCell ⟨w.heap.size + 1, 2, none⟩ (.int .i64 x.len)).setCell ⟨w.heap.size + 1, 3, none⟩ (.slice D x.data.length cd)).setCell ⟨w.heap.size + 2, 0, none⟩ (.bool true)) :=
      OnlyS.set (OnlyS.set (OnlyS.set (OnlyS.set (OnlyS.set (OnlyS.refl _ _) _ _ (.inl (.inl rfl))) _ _ (.inl (.inl rfl))) _ _ (.inl (.inl rfl))) _ _ (.inl (.inl rfl))) _ _ (.inl (.inr rfl))
    generalize ((((w6.setCell ⟨w.heap.size + 1, 0, none⟩ (.int .i64 x.id)).setCell ⟨w.heap.size + 1, 1, none⟩ (.int .i64 x.off)).setCell ⟨w.heap.size + 1, 2, none⟩ (.int .i64 x.len)).setCell ⟨w.heap.size + 1, 3, none⟩ (.slice D x.data.length cd)).setCell ⟨w.heap.size + 2, 0, none⟩ (.bool true) = w7 at u1 u2 hO7 ⊢
    have hnS := HNS.out
    have hO67 : OnlyS (fun q => q = g ∨ q = w.heap.size + 1 ∨ q = w.heap.size + 2) W w7 := HO6.out.trans hO7 (fun q hq => .inl (.inr hq))
    refine ⟨keeps_of_only hO67 (fun q o hq ho => ?_), .slice D x.data.length cd, S6, u1, u2, ?_, ?_, fun q hq => ?_, ?_⟩
    · rcases hq with rfl | rfl | rfl
      · rw [HHH.out] at ho; injection ho with ho; subst ho; rfl
      · rw [E1.out] at ho; injection ho with ho; subst ho; rfl
      · rw [E2.out] at ho; injection ho with ho; subst ho; rfl
    · refine Kd.R_mono (Kd.R_step HRD.out (fun q hq hlt => hO67.block q hlt (fun ht => ?_))) (fun q hq => .inl (HD0.out q hq).1)
      have h1 := (rw_S HH.out q (HD0.out q hq).1).2
      have h2 := (HD0.out q hq).2
      rcases ht with rfl | rfl | rfl
      · exact h2 rfl
      · omega
      · omega
    · refine rw_only HP1.out hO7 (fun q hq ht => ?_)
      rcases HP2.out q hq with h1 | h1
      · have := (rw_S HH.out q h1).2
        rcases ht with rfl | rfl <;> omega
      · rcases ht with rfl | rfl <;> omega
    · rcases HP2.out q hq with h1 | h1
      · exact .inl h1
      · exact .inr (by omega)
    · have hSg : S g := hS
      exact ((OnlyS.of_below (S := S) (bl_to HB4.out HI.out (by omega))).trans HP3.out (fun q hq => .inl hq)).trans hO7 (fun q hq => by rcases hq with rfl | rfl <;> exact .inr (by omega))
  case done =>
    intro D W hD hno hI hK
    have hp : pickN own L = noWr := by unfold pickN; rw [hno]
    have hl : leftN own L = L := by unfold leftN; rw [hno]
    have hs : (nextN own L).isSome = false := by rw [hno]; rfl
    have HP := Lib.hid hp
    have HL := Lib.hid hl
    have HS := Lib.hid hs
    have d1 := keep_at_all C1.out hI
    have d2 := keep_at_all C2.out hI
    have q10 : W.cell? ⟨w.heap.size + 1, 0, none⟩ = some (.int .i64 0) := blk_cell d1 0
    have q11 : W.cell? ⟨w.heap.size + 1, 1, none⟩ = some (.int .i64 0) := blk_cell d1 1
    have q12 : W.cell? ⟨w.heap.size + 1, 2, none⟩ = some (.int .i64 0) := blk_cell d1 2
    have q13 : W.cell? ⟨w.heap.size + 1, 3, none⟩ = some (.slice none 0 0) := blk_cell d1 3
    have q20 : W.cell? ⟨w.heap.size + 1 + 1, 0, none⟩ = some (.bool false) := blk_cell d2 0
    have f10 : W.frozen? ⟨w.heap.size + 1, 0, none⟩ = false := blk_frozen d1 0
    have f11 : W.frozen? ⟨w.heap.size + 1, 1, none⟩ = false := blk_frozen d1 1
    have f12 : W.frozen? ⟨w.heap.size + 1, 2, none⟩ = false := blk_frozen d1 2
    have f13 : W.frozen? ⟨w.heap.size + 1, 3, none⟩ = false := blk_frozen d1 3
    have f20 : W.frozen? ⟨w.heap.size + 1 + 1, 0, none⟩ = false := blk_frozen d2 0
    have HI := Lib.hid hI
    have d1' := d1
    have d2' := d2
    clear hno hp hl hs d1 d2 hI
    have D1 := Lib.hid d1'
    have D2 := Lib.hid d2'
    clear d1' d2'
    gi_wp2_with fail
    have e1 := far_at (set_at (set_at (set_at (set_at D1.out 0 (.int .i64 0)) 1 (.int .i64 0)) 2 (.int .i64 0)) 3 (.slice none 0 0)) (p := ⟨w.heap.size + 1 + 1, 0, none⟩) (by show w.heap.size + 1 ≠ w.heap.size + 1 + 1; omega) (.bool false)
    have e2 := set_at (far_at (far_at (far_at (far_at D2.out (p := ⟨w.heap.size + 1, 0, none⟩) (by show w.heap.size + 1 + 1 ≠ w.heap.size + 1; omega) (.int .i64 0)) (p := ⟨w.heap.size + 1, 1, none⟩) (by show w.heap.size + 1 + 1 ≠ w.heap.size + 1; omega) (.int .i64 0)) (p := ⟨w.heap.size + 1, 2, none⟩) (by show w.heap.size + 1 + 1 ≠ w.heap.size + 1; omega) (.int .i64 0)) (p := ⟨w.heap.size + 1, 3, none⟩) (by show w.heap.size + 1 + 1 ≠ w.heap.size + 1; omega) (.slice none 0 0)) 0 (.bool false)
    have hK' := far_at (far_at (far_at (far_at (far_at hK (p := ⟨w.heap.size + 1, 0, none⟩) (by show D ≠ w.heap.size + 1; omega) (.int .i64 0)) (p := ⟨w.heap.size + 1, 1, none⟩) (by show D ≠ w.heap.size + 1; omega) (.int .i64 0)) (p := ⟨w.heap.size + 1, 2, none⟩) (by show D ≠ w.heap.size + 1; omega) (.int .i64 0)) (p := ⟨w.heap.size + 1, 3, none⟩) (by show D ≠ w.heap.size + 1; omega) (.slice none 0 0)) (p := ⟨w.heap.size + 1 + 1, 0, none⟩) (by show D ≠ w.heap.size + 1 + 1; omega) (.bool false)
    have hO : OnlyS (fun _ => False) w (((((W.setCell ⟨w.heap.size + 1, 0, none⟩ (.int .i64 0)).setCell ⟨w.heap.size + 1, 1, none⟩ (.int .i64 0)).setCell ⟨w.heap.size + 1, 2, none⟩ (.int .i64 0)).setCell ⟨w.heap.size + 1, 3, none⟩ (.slice none 0 0)).setCell ⟨w.heap.size + 1 + 1, 0, none⟩ (.bool false)) := by
      refine OnlyS.set (OnlyS.set (OnlyS.set (OnlyS.set (OnlyS.set ((OnlyS.of_below HB4.out).below HI.out) _ _ (.inr ?_)) _ _ (.inr ?_)) _ _ (.inr ?_)) _ _ (.inr ?_)) _ _ (.inr ?_)
      · show w.heap.size ≤ w.heap.size + 1; omega
      · show w.heap.size ≤ w.heap.size + 1; omega
      · show w.heap.size ≤ w.heap.size + 1; omega
      · show w.heap.size ≤ w.heap.size + 1; omega
      · show w.heap.size ≤ w.heap.size + 1 + 1; omega
    generalize ((((W.setCell ⟨w.heap.size + 1, 0, none⟩ (.int .i64 0)).setCell ⟨w.heap.size + 1, 1, none⟩ (.int .i64 0)).setCell ⟨w.heap.size + 1, 2, none⟩ (.int .i64 0)).setCell ⟨w.heap.size + 1, 3, none⟩ (.slice none 0 0)).setCell ⟨w.heap.size + 1 + 1, 0, none⟩ (.bool false) = W6 at e1 e2 hK' hO ⊢
    refine ⟨by simp, .inl ⟨_, _, rfl, run_takeDeferred hK', ?_⟩⟩
    have hg7 : W6.grownBy (W6.putObj D (.deferred none)) (some D) := grownBy_putObj' W6 D _
    have e1' := keep_at_grown e1 hg7 (by intro he; injection he; omega)
    have e2' := keep_at_grown e2 hg7 (by intro he; injection he; omega)
    have hO7 := only_turn hO hg7 (fun r e => by injection e; omega)
    have hQ7 := rw_only HH.out hO7 (fun _ _ hf => hf)
    generalize W6.putObj D (.deferred none) = W7 at e1' e2' hO7 hQ7 ⊢
    have g0 : W7.cell? ⟨w.heap.size + 1, 0, none⟩ = some (.int .i64 0) := blk_cell e1' 0
    have g1 : W7.cell? ⟨w.heap.size + 1, 1, none⟩ = some (.int .i64 0) := blk_cell e1' 1
    have g2 : W7.cell? ⟨w.heap.size + 1, 2, none⟩ = some (.int .i64 0) := blk_cell e1' 2
    have g3 : W7.cell? ⟨w.heap.size + 1, 3, none⟩ = some (.slice none 0 0) := blk_cell e1' 3
    have g4 : W7.cell? ⟨w.heap.size + 1 + 1, 0, none⟩ = some (.bool false) := blk_cell e2' 0
    refine ⟨.tuple #[.agg #[.int .i64 0, .int .i64 0, .int .i64 0, .slice none 0 0], .bool false], by simp [results, Try.results16, go_sem, g0, g1, g2, g3, g4], ?_⟩
    rw [HP.out, HL.out, HS.out]
    exact ⟨_, rfl, Kd.R_nil _ _ _ _ _, S, hQ7, fun k hk => .inl hk, ⟨hO7.os, hO7.tape, hO7.output, hO7.size, fun k hk _ => hO7.block k hk (fun hf => hf)⟩⟩
  case stop =>
    rintro D k W hD hk ⟨v, S7, n1, n2, n3, n4, n5, n6⟩ hK
    have hp : pickN own L = L.getD k noWr := by unfold pickN; rw [hk]
    have hl : leftN own L = L.eraseIdx k := by unfold leftN; rw [hk]
    have hs : (nextN own L).isSome = true := by rw [hk]; rfl
    have HP := Lib.hid hp
    have HL := Lib.hid hl
    have HS := Lib.hid hs
    have N4 := Lib.hid n4
    have N6 := Lib.hid n6
    have N3 := Lib.hid n3
    have N5 := Lib.hid n5
    clear hp hl hs hk n4 n6 n3 n5
    gi_wp2_with fail
    refine ⟨by simp, .inl ⟨_, _, rfl, run_takeDeferred hK, ?_⟩⟩
    have hg7 : W.grownBy (W.putObj D (.deferred none)) (some D) := grownBy_putObj' W D _
    have hN7 := next_own (w := w) (rb := w.heap.size + 1) (g := g) (base := base) (S := S) (x := L.getD k noWr) (M := L.eraseIdx k) (B := W5.heap.size) (by omega) () W _ _ ⟨v, S7, n1, n2, N3.out, N4.out, N5.out, N6.out⟩ hg7 (fun r e => by injection e with e; subst e; exact ⟨hD, _, hK, rfl⟩)
    obtain ⟨v9, S9, m1, m2, m3, m4, m5, m6⟩ := hN7
    generalize W.putObj D (.deferred none) = W7 at m1 m2 m3 m4 m6 ⊢
    have g0 : W7.cell? ⟨w.heap.size + 1, 0, none⟩ = some (.int .i64 (L.getD k noWr).id) := blk_cell m1 0
    have g1 : W7.cell? ⟨w.heap.size + 1, 1, none⟩ = some (.int .i64 (L.getD k noWr).off) := blk_cell m1 1
    have g2 : W7.cell? ⟨w.heap.size + 1, 2, none⟩ = some (.int .i64 (L.getD k noWr).len) := blk_cell m1 2
    have g3 : W7.cell? ⟨w.heap.size + 1, 3, none⟩ = some v9 := blk_cell m1 3
    have g4 : W7.cell? ⟨w.heap.size + 1 + 1, 0, none⟩ = some (.bool true) := blk_cell m2 0
    refine ⟨.tuple #[.agg #[.int .i64 (L.getD k noWr).id, .int .i64 (L.getD k noWr).off, .int .i64 (L.getD k noWr).len, v9], .bool true], by simp only [results, Try.results16, go_sem, g0, g1, g2, g3, g4]; simp [go_sem, g0, g1, g2, g3, g4], ?_⟩
    rw [HP.out, HL.out, HS.out]
    exact ⟨_, rfl, m3, S9, m4, m5, m6⟩
end
end Go.Proofs.Ytoobbolaoldacaa.LaterW
