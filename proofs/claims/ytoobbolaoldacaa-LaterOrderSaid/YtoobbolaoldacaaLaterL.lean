/-
  The calls that the statements of layer 25 play, and a queue alone.
-/
import Derived.Test.YtoobbolaoldacaaLaterN
namespace Go.Proofs.Ytoobbolaoldacaa.LaterW
open Go.RowKit Go.Proofs.Ytoobbolaoldacaa Go.Proofs.Ytoobbolaoldacaa.Later Go.Proofs.Ytoobbolaoldacaa.LaterSP Go.Proofs.Ytoobbolaoldacaa.LaterP Go.Proofs.Ytoobbolaoldacaa.RowOwn Go.Proofs.Ytoobbolaoldacaa.CloneB Go.Proofs.YtoobbolaoldacaaW.PrintWords Go.Proofs.YtoobbolaoldacaaW.PrintLast Go.Proofs.YtoobbolaoldacaaW.PrintMore
set_option linter.unusedVariables false
structure S31 where
  f0 : Bool
  f1 : Int
  f2 : S27
  f3 : (List Int)
  f4 : (List S140)
def k31 : Kd S31 := Kd.iso (Kd.pair Kd.bool (Kd.pair (Kd.int .i64) (Kd.pair k27 (Kd.pair (Kd.slice 5 (Kd.int .u8)) (Kd.slice 140 k140))))) (fun x : S31 => (x.f0, x.f1, x.f2, x.f3, x.f4))
theorem k31_open {w : World} {x : S31} {cs : List Value} (h : k31.K w x cs) : ∃ A4 c4 A5 c5, cs = [.bool x.f0, .int .i64 x.f1, .int .i64 x.f2.f0, .int .i64 x.f2.f1, .slice A4 x.f3.length c4, .slice A5 x.f4.length c5] ∧ x.f3.length ≤ c4 ∧ x.f4.length ≤ c5 ∧ (Kd.int .u8).C w A4 x.f3.length x.f3 ∧ k140.C w A5 x.f4.length x.f4 := by
  obtain ⟨_, _, rfl, rfl, ⟨_, _, rfl, rfl, ⟨_, _, rfl, s2, ⟨_, _, rfl, ⟨A4, c4, rfl, l4, g4⟩, ⟨A5, c5, rfl, l5, g5⟩⟩⟩⟩⟩ := h
  obtain rfl := k27_open s2
  exact ⟨A4, c4, A5, c5, rfl, l4, l5, g4, g5⟩
theorem at_act {w : World} {A : Option Addr} {n : Nat} {xs : List S31} (h : Kd.C k31 w A n xs) (i : Nat) (hi : i < xs.length) :
    ∃ ad B cb O co, A = some ad ∧ w.cell? (ad.add (i * 6)) = some (.bool xs[i].f0) ∧ w.cell? ⟨(ad.add (i * 6)).block, (ad.add (i * 6)).off + 1, none⟩ = some (.int .i64 xs[i].f1) ∧ w.cell? ⟨(ad.add (i * 6)).block, (ad.add (i * 6)).off + 2, none⟩ = some (.int .i64 xs[i].f2.f0) ∧ w.cell? ⟨(ad.add (i * 6)).block, (ad.add (i * 6)).off + 3, none⟩ = some (.int .i64 xs[i].f2.f1) ∧ w.cell? ⟨(ad.add (i * 6)).block, (ad.add (i * 6)).off + 4, none⟩ = some (.slice B xs[i].f3.length cb) ∧ w.cell? ⟨(ad.add (i * 6)).block, (ad.add (i * 6)).off + 5, none⟩ = some (.slice O xs[i].f4.length co) ∧ Kd.C KB w B xs[i].f3.length xs[i].f3 ∧ xs[i].f4.length ≤ co ∧ Kd.C k140 w O xs[i].f4.length xs[i].f4 := by
  have hn : xs.length = n := h.1
  obtain ⟨ad, c, e, _, hK, hc0⟩ := Kd.C_get h (⟨false, 0, ⟨0, 0⟩, [], []⟩ : S31) (i : Int) (by omega) (by omega)
  rw [Int.toNat_natCast] at hK hc0
  rw [List.getD_eq_getElem?_getD, List.getElem?_eq_getElem hi] at hK
  have hc : ∀ j u, c[j]? = some u → w.cell? (ad.add (i * 6 + j)) = some u := hc0
  obtain ⟨B, cb, O, co, rfl, hl1, hl2, hC1, hC2⟩ := k31_open hK
  exact ⟨ad, B, cb, O, co, e, hc 0 _ rfl, by rw [← add_field _ _ 1 (by omega)]; exact hc 1 _ rfl, by rw [← add_field _ _ 2 (by omega)]; exact hc 2 _ rfl, by rw [← add_field _ _ 3 (by omega)]; exact hc 3 _ rfl, by rw [← add_field _ _ 4 (by omega)]; exact hc 4 _ rfl, by rw [← add_field _ _ 5 (by omega)]; exact hc 5 _ rfl, hC1, hl2, hC2⟩
/-- a queue alone -/
def QS (w : World) (g : Nat) (L : List Wr) (u : World) : Prop := ∃ S, QAt u g g L S ∧ Below g w u
section
variable {w u : World} {g : Nat} {L : List Wr}
theorem qs_lt (h : QS w g L u) : g < u.heap.size ∧ L.length ≤ 100000 := by
  obtain ⟨S, hQ, hb⟩ := h
  exact ⟨(rw_lt hQ).2.1, (rw_lt hQ).2.2⟩
theorem qs_bel (h : QS w g L u) : Below g w u := by
  obtain ⟨S, hQ, hb⟩ := h
  exact hb
theorem qs_below {u' : World} (h : QS w g L u) (hb' : Below u.heap.size u u') : QS w g L u' := by
  have hl := qs_lt h
  obtain ⟨S, hQ, hb⟩ := h
  exact ⟨S, rw_below hQ hb', bl_to hb hb' (by omega)⟩
theorem qs_push (x : Wr) (A : Option Addr) (c : Nat) (h : QS w g L u) (hL : L.length < 100000) (hbl : x.data.length ≤ 140737488355328) (hr : Kd.C KB u A x.data.length x.data) :
    Calls Try.prog 15 #[.pointer (some ⟨g, 0, none⟩), .int .i64 x.id, .agg #[.int .i64 x.off, .int .i64 x.len], .slice A x.data.length c] u fun e w' => e = .returned (.bool true) ∧ QS w g (L ++ [x]) w' := by
  obtain ⟨S, hQ, hb⟩ := h
  refine (Push_c g g L S x A c u hQ hL hbl hr).mono ?_
  rintro e w' ⟨rfl, S1, h1, h2, h3⟩
  exact ⟨rfl, S1, h1, rw_bl hQ h3 hb⟩
theorem qs_next (own : List S38) (A : Option Addr) (c : Nat) (h : QS w g L u) (hr : Kd.C k38 u A own.length own) (hc : own.length ≤ c) :
    Calls Try.prog 16 #[.pointer (some ⟨g, 0, none⟩), .slice A own.length c] u fun e w' => (∃ v, e = .returned (.tuple #[.agg #[.int .i64 (pickN own L).id, .int .i64 (pickN own L).off, .int .i64 (pickN own L).len, v], .bool (nextN own L).isSome]) ∧ ∃ a n d, v = .slice a n d) ∧ QS w g (leftN own L) w' := by
  obtain ⟨S, hQ, hb⟩ := h
  refine (Next_c g g L S own A c u hQ hr hc).mono ?_
  rintro e w' ⟨v, rfl, hR, S1, h1, h2, h3⟩
  obtain ⟨a, d, hv⟩ := Kd.R_slice hR
  exact ⟨⟨v, rfl, a, _, d, hv⟩, S1, h1, rw_bl hQ h3 hb⟩
theorem qs_len (h : QS w g L u) : Calls Try.prog 17 #[.pointer (some ⟨g, 0, none⟩)] u fun e w' => e = .returned (.int .i64 (L.length : Int)) ∧ u = w' := by
  obtain ⟨S, hQ, hb⟩ := h
  exact Len_c g g L S u hQ
end
def wrOf (i : Nat) (a : S31) : Wr := ⟨(i : Int), a.f2.f0, a.f2.f1, a.f3⟩
theorem idx_next (l : List S31) (k : Nat) (h : k < l.length) : (l.take (k + 1)).mapIdx wrOf = (l.take k).mapIdx wrOf ++ [wrOf k l[k]] := by
  rw [List.take_add_one, List.getElem?_eq_getElem h, List.mapIdx_append]
  simp [List.length_take, Nat.min_eq_left (Nat.le_of_lt h)]
theorem go_unsent (o n : Int) (x : Wr) : goN [⟨⟨o, n⟩, false⟩] x = true := by
  unfold goN clBlocks
  simp
theorem next_cons (own : List S38) (x : Wr) (L : List Wr) (h : goN own x = true) : nextN own (x :: L) = some 0 := by
  unfold nextN
  rw [List.findIdx?_cons, h]
  rfl
theorem pick_cons (own : List S38) (x : Wr) (L : List Wr) (h : goN own x = true) : pickN own (x :: L) = x ∧ leftN own (x :: L) = L ∧ (nextN own (x :: L)).isSome = true := by
  unfold pickN leftN
  rw [next_cons own x L h]
  exact ⟨rfl, rfl, rfl⟩
theorem next_nil (own : List S38) : (nextN own []).isSome = false ∧ leftN own [] = [] ∧ pickN own [] = noWr := by
  refine ⟨rfl, rfl, rfl⟩
end Go.Proofs.Ytoobbolaoldacaa.LaterW
