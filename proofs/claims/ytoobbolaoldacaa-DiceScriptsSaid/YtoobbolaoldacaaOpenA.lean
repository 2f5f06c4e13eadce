/-
  How an argument of a statement opens that is an array of eight whole numbers (printed by tools/mkopena.py).
-/
import Derived.Test.YtoobbolaoldacaaOpen
namespace Go.Proofs.Ytoobbolaoldacaa.OpenA
open Go.ChangeShapes Go.WideShapes Go.RowKit Go.Deep Go.Proofs.YtoobbolaoldacaaW.PrintWords
structure S8 where
  f0 : Int
  f1 : Int
  f2 : Int
  f3 : Int
  f4 : Int
  f5 : Int
  f6 : Int
  f7 : Int
def k8 : Kd S8 := Kd.iso (Kd.pair (Kd.int .i64) (Kd.pair (Kd.int .i64) (Kd.pair (Kd.int .i64) (Kd.pair (Kd.int .i64) (Kd.pair (Kd.int .i64) (Kd.pair (Kd.int .i64) (Kd.pair (Kd.int .i64) (Kd.int .i64)))))))) (fun x : S8 => (x.f0, x.f1, x.f2, x.f3, x.f4, x.f5, x.f6, x.f7))
abbrev cells8 (x : S8) : List Value := [.int .i64 x.f0, .int .i64 x.f1, .int .i64 x.f2, .int .i64 x.f3, .int .i64 x.f4, .int .i64 x.f5, .int .i64 x.f6, .int .i64 x.f7]
theorem k8_open {w : World} {x : S8} {cs : List Value} (h : k8.K w x cs) : cs = cells8 x := by
  obtain ⟨_, _, rfl, rfl, _, _, rfl, rfl, _, _, rfl, rfl, _, _, rfl, rfl, _, _, rfl, rfl, _, _, rfl, rfl, _, _, rfl, rfl, rfl⟩ := h
  rfl
theorem k8_mk {w : World} (x : S8) : k8.K w x (cells8 x) :=
  ⟨[_], _, rfl, rfl, [_], _, rfl, rfl, [_], _, rfl, rfl, [_], _, rfl, rfl, [_], _, rfl, rfl, [_], _, rfl, rfl, [_], _, rfl, rfl, rfl⟩
def wf8 (x : S8) : Prop := (Lit.int .i64 x.f0).wf = true ∧ (Lit.int .i64 x.f1).wf = true ∧ (Lit.int .i64 x.f2).wf = true ∧ (Lit.int .i64 x.f3).wf = true ∧ (Lit.int .i64 x.f4).wf = true ∧ (Lit.int .i64 x.f5).wf = true ∧ (Lit.int .i64 x.f6).wf = true ∧ (Lit.int .i64 x.f7).wf = true
section
variable {P : Program} {t e : TypeId}
theorem opens_arr8 (ht : P.underlying t = some (.array 8 e)) (he : P.underlying e = some (.int .i64)) (hsz : P.cellsOf e = 1) (hst : P.cellsOf t = 8) : Opening.Opens P t k8 wf8 := by
  intro H enc w spare held fuel cs x hx
  obtain ⟨xs, m, _, _, hl, hlen, hf⟩ := DataW.trod_array ht hx
  rw [hst] at hl
  rw [hsz] at hf
  match cs, hl with
  | [u0, u1, u2, u3, u4, u5, u6, u7], _ =>
    obtain ⟨a0, h0, w0⟩ := Opening.opens_int he enc w spare held m [u0] (xs[0]'(by omega)) ((hf 0 (by omega)).trans (List.getElem?_eq_getElem (by omega)))
    replace h0 : [u0] = [Value.int .i64 a0] := h0
    injection h0 with h0 _
    subst h0
    obtain ⟨a1, h1, w1⟩ := Opening.opens_int he enc w spare held m [u1] (xs[1]'(by omega)) ((hf 1 (by omega)).trans (List.getElem?_eq_getElem (by omega)))
    replace h1 : [u1] = [Value.int .i64 a1] := h1
    injection h1 with h1 _
    subst h1
    obtain ⟨a2, h2, w2⟩ := Opening.opens_int he enc w spare held m [u2] (xs[2]'(by omega)) ((hf 2 (by omega)).trans (List.getElem?_eq_getElem (by omega)))
    replace h2 : [u2] = [Value.int .i64 a2] := h2
    injection h2 with h2 _
    subst h2
    obtain ⟨a3, h3, w3⟩ := Opening.opens_int he enc w spare held m [u3] (xs[3]'(by omega)) ((hf 3 (by omega)).trans (List.getElem?_eq_getElem (by omega)))
    replace h3 : [u3] = [Value.int .i64 a3] := h3
    injection h3 with h3 _
    subst h3
    obtain ⟨a4, h4, w4⟩ := Opening.opens_int he enc w spare held m [u4] (xs[4]'(by omega)) ((hf 4 (by omega)).trans (List.getElem?_eq_getElem (by omega)))
    replace h4 : [u4] = [Value.int .i64 a4] := h4
    injection h4 with h4 _
    subst h4
    obtain ⟨a5, h5, w5⟩ := Opening.opens_int he enc w spare held m [u5] (xs[5]'(by omega)) ((hf 5 (by omega)).trans (List.getElem?_eq_getElem (by omega)))
    replace h5 : [u5] = [Value.int .i64 a5] := h5
    injection h5 with h5 _
    subst h5
    obtain ⟨a6, h6, w6⟩ := Opening.opens_int he enc w spare held m [u6] (xs[6]'(by omega)) ((hf 6 (by omega)).trans (List.getElem?_eq_getElem (by omega)))
    replace h6 : [u6] = [Value.int .i64 a6] := h6
    injection h6 with h6 _
    subst h6
    obtain ⟨a7, h7, w7⟩ := Opening.opens_int he enc w spare held m [u7] (xs[7]'(by omega)) ((hf 7 (by omega)).trans (List.getElem?_eq_getElem (by omega)))
    replace h7 : [u7] = [Value.int .i64 a7] := h7
    injection h7 with h7 _
    subst h7
    exact ⟨⟨a0, a1, a2, a3, a4, a5, a6, a7⟩, k8_mk _, w0, w1, w2, w3, w4, w5, w6, w7⟩
/-- AN ARGUMENT THAT IS AN ARRAY OF EIGHT. -/
theorem arg_arr8 {H : Type} {enc : TypeId × Value → H} {w : World} {r : Reach} {b0 : Nat} {v : Value} {D : DataW H} {p : List MemPlace}
    (ht : P.underlying t = some (.array 8 e)) (h : Opening.Opens P t k8 wf8) (hv : Value.okWide P w r b0 t v) (hx : DataW.Trod enc P w 0 (fun _ => true) true t v D p) :
    ∃ (a : S8) (cs : List Value), v = .agg ⟨cs⟩ ∧ k8.K w a cs ∧ wf8 a := by
  have hh : ∃ cs, v = .agg cs ∧ cs.size = P.cellsOf t := by
    simp only [Value.okWide, ht] at hv
    obtain ⟨cs, h1, h2, _⟩ := hv
    exact ⟨cs, h1, h2⟩
  obtain ⟨cs, rfl, _⟩ := hh
  obtain ⟨fuel, hf⟩ := hx
  obtain ⟨a, ha, hw⟩ := h enc w _ _ fuel _ _ hf
  exact ⟨a, cs.toList, rfl, by simpa [Value.cells] using ha, hw⟩
end
end Go.Proofs.Ytoobbolaoldacaa.OpenA
