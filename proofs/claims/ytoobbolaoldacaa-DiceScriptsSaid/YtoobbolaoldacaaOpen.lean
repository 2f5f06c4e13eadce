/-
  How an argument of a statement opens: what reads as data at a type is held by the printed words' kind of that type, each number in its range.
-/
import Derived.Test.YtoobbolaoldacaaWWords
import Derived.Deep.Slices
import Derived.ProofKit
import Derived.ChangeOld
import Derived.OpenShut
import Derived.ShutString
namespace Go.Proofs.Ytoobbolaoldacaa.Opening
open Go.ChangeShapes Go.WideShapes Go.RowKit Go.Deep Go.Proofs.YtoobbolaoldacaaW.PrintWords

/-- WHAT READS AT TYPE t IS OF THE KIND d, AND FITS. -/
def Opens {α : Type} (P : Program) (t : TypeId) (d : Kd α) (Wf : α → Prop) : Prop :=
  ∀ {H : Type} (enc : TypeId × Value → H) (w : World) (spare : Nat → Bool) (held : Bool) (fuel : Nat) (cs : List Value) (x : DataW H × List MemPlace), DataW.trod enc P w 0 spare held fuel t cs = some x → ∃ a : α, d.K w a cs ∧ Wf a

section
variable {P : Program} {t e : TypeId}
theorem opens_int {k : IntKind} (ht : P.underlying t = some (.int k)) : Opens P t (Kd.int k) (fun x => (Lit.int k x).wf = true) := by
  intro H enc w spare held fuel cs x h
  obtain ⟨n, rfl, _, hw⟩ := DataW.trod_int ht h
  exact ⟨n, rfl, hw⟩
theorem opens_bool (ht : P.underlying t = some .bool) : Opens P t Kd.bool (fun _ => True) := by
  intro H enc w spare held fuel cs x h
  obtain ⟨b, rfl, _⟩ := DataW.trod_bool ht h
  exact ⟨b, rfl, trivial⟩
theorem opens_slice {α : Type} {d : Kd α} {Wf : α → Prop} (ht : P.underlying t = some (.slice e)) (hsz : P.cellsOf e = d.sz) (h : Opens P e d Wf) : Opens P t (Kd.slice e d) (fun l => l.length ≤ maxLen ∧ ∀ x ∈ l, Wf x) := by
  intro H enc w spare held fuel cs x hx
  rcases open_slice ht hx with ⟨rfl, _⟩ | ⟨a, len, cap, m, n, D, Pl, rfl, _, hl, hm, hmm, _, hel⟩
  · refine ⟨[], ⟨none, 0, rfl, Nat.le_refl _, rfl, by simp, fun hp => absurd hp (by simp)⟩, by simp [maxLen], fun x hx => by cases hx⟩
  · have hle : len ≤ m := by rw [hmm]; split <;> omega
    have key : ∀ i, i < len → ∃ a' : α, ∃ cs', d.K w a' cs' ∧ Wf a' ∧ w.cells? 0 (a.add (i * d.sz)) d.sz = some cs' := by
      intro i hi
      obtain ⟨cs', h1, h2⟩ := hel i (by omega)
      obtain ⟨a', hk, hw⟩ := h enc w spare held n cs' _ h2
      rw [hsz] at h1
      exact ⟨a', cs', hk, hw, h1⟩
    have tot : ∀ j, j ≤ len → ∃ l : List α, l.length = j ∧ ∀ i, ∀ a', l[i]? = some a' → ∃ cs', d.K w a' cs' ∧ Wf a' ∧ w.cells? 0 (a.add (i * d.sz)) d.sz = some cs' := by
      intro j
      induction j with
      | zero => exact fun _ => ⟨[], rfl, fun i a' hi => by simp at hi⟩
      | succ j ih =>
        intro hj
        obtain ⟨l, hl', hL⟩ := ih (by omega)
        obtain ⟨a', cs', h1, h2, h3⟩ := key j (by omega)
        refine ⟨l ++ [a'], by simp [hl'], fun i b hb => ?_⟩
        rcases Nat.lt_or_ge i l.length with hi | hi
        · rw [List.getElem?_append_left hi] at hb
          exact hL i b hb
        · have hi' : i = l.length := by
            have := (List.getElem?_eq_some_iff.1 hb).1
            simp at this
            omega
          subst hi'
          simp at hb
          subst hb
          rw [hl']
          exact ⟨cs', h1, h2, h3⟩
    obtain ⟨l, hlen, hL⟩ := tot len (Nat.le_refl _)
    refine ⟨l, ⟨some a, cap, by rw [hlen], by rw [hlen]; exact hl, rfl, by rw [hlen]; simp only [maxLen] at hm; omega, fun _ => ⟨a, rfl, fun j p hj => ?_⟩⟩, by rw [hlen]; omega, fun x hx => ?_⟩
    · obtain ⟨cs', hk, _, hc⟩ := hL j p hj
      obtain ⟨_, hlc, hcell⟩ := World.cells?_some hc
      refine ⟨cs', hlc, hk, fun i u hu => ?_⟩
      have hi : i < cs'.length := (List.getElem?_eq_some_iff.1 hu).1
      have h2 := hcell i (by omega)
      rw [Go.Deep.add_add] at h2
      rw [h2, hu]
    · obtain ⟨i, hi⟩ := List.getElem?_of_mem hx
      obtain ⟨_, _, hw, _⟩ := hL i x hi
      exact hw

/-- Fields in line, from an offset on. -/
def OpensF {α : Type} (P : Program) (fs : List Field) (off : Nat) (d : Kd α) (Wf : α → Prop) : Prop :=
  ∀ {H : Type} (enc : TypeId × Value → H) (w : World) (spare : Nat → Bool) (held : Bool) (fuel : Nat) (cs : List Value),
    (∀ f ∈ fs, ∃ x, DataW.trod enc P w 0 spare held fuel f.type ((cs.drop f.offset).take (P.cellsOf f.type)) = some x) → ∃ a : α, d.K w a ((cs.drop off).take d.sz) ∧ Wf a
theorem opensF_one {α : Type} {d : Kd α} {Wf : α → Prop} {f : Field} {off : Nat} (ho : f.offset = off) (hsz : P.cellsOf f.type = d.sz) (h : Opens P f.type d Wf) : OpensF P [f] off d Wf := by
  intro H enc w spare held fuel cs hx
  obtain ⟨x, hx⟩ := hx f (List.mem_singleton.2 rfl)
  rw [ho, hsz] at hx
  exact h enc w spare held fuel _ x hx
theorem opensF_cons {α β : Type} {d : Kd α} {Wf : α → Prop} {d' : Kd β} {Wf' : β → Prop} {f : Field} {fs : List Field} {off : Nat} (ho : f.offset = off) (hsz : P.cellsOf f.type = d.sz) (h : Opens P f.type d Wf) (h' : OpensF P fs (off + d.sz) d' Wf') :
    OpensF P (f :: fs) off (Kd.pair d d') (fun x => Wf x.1 ∧ Wf' x.2) := by
  intro H enc w spare held fuel cs hx
  obtain ⟨x, h0⟩ := hx f List.mem_cons_self
  rw [ho, hsz] at h0
  obtain ⟨a, ha, wa⟩ := h enc w spare held fuel _ x h0
  obtain ⟨b, hb, wb⟩ := h' enc w spare held fuel cs (fun g hg => hx g (List.mem_cons_of_mem _ hg))
  refine ⟨(a, b), ⟨_, _, ?_, ha, hb⟩, wa, wb⟩
  show (cs.drop off).take (d.sz + d'.sz) = _
  rw [List.take_add, List.drop_drop]
theorem opens_struct {α β : Type} {d : Kd α} {Wf : α → Prop} {fs : Array Field} {f : β → α} (g : α → β) (hfg : ∀ a, f (g a) = a) (ht : P.underlying t = some (.struct fs)) (hsz : P.cellsOf t = d.sz) (h : OpensF P fs.toList 0 d Wf) :
    Opens P t (Kd.iso d f) (fun b => Wf (f b)) := by
  intro H enc w spare held fuel cs x hx
  obtain ⟨xs, n, _, _, hl, hlen, hf⟩ := DataW.trod_struct ht hx
  obtain ⟨a, ha, wa⟩ := h enc w spare held n cs (fun q hq => by
    obtain ⟨i, hi⟩ := List.getElem?_of_mem hq
    have hi2 : fs[i]? = some q := by simpa using hi
    have hlt : i < xs.length := by rw [hlen]; exact (Array.getElem?_eq_some_iff.1 hi2).1
    exact ⟨xs[i], by rw [hf i q hi2, List.getElem?_eq_getElem hlt]⟩)
  refine ⟨g a, ?_, by show Wf (f (g a)); rw [hfg]; exact wa⟩
  show d.K w (f (g a)) cs
  rw [hfg]
  rwa [List.drop_zero, ← hsz, ← hl, List.take_length] at ha
theorem Opens.imp {α : Type} {d : Kd α} {Wf Wf' : α → Prop} (h : Opens P t d Wf) (hi : ∀ a, Wf a → Wf' a) : Opens P t d Wf' := by
  intro H enc w spare held fuel cs x hx
  obtain ⟨a, ha, wa⟩ := h enc w spare held fuel cs x hx
  exact ⟨a, ha, hi a wa⟩

/-- AN ARGUMENT THAT IS A SLICE: its value, its list. -/
theorem arg_slice {α : Type} {d : Kd α} {Wf : List α → Prop} {H : Type} {enc : TypeId × Value → H} {w : World} {r : Reach} {b0 : Nat} {v : Value} {D : DataW H} {p : List MemPlace}
    (ht : P.underlying t = some (.slice e)) (h : Opens P t (Kd.slice e d) Wf) (hv : Value.okWide P w r b0 t v) (hx : DataW.Trod enc P w 0 (fun _ => true) true t v D p) :
    ∃ A c l, v = .slice A l.length c ∧ l.length ≤ c ∧ Kd.C d w A l.length l ∧ Wf l := by
  obtain ⟨a0, len, cap, rfl⟩ := okWide_slice ht hv
  obtain ⟨fuel, hf⟩ := hx
  obtain ⟨l, ⟨A, c, hcs, hl, hC⟩, hw⟩ := h enc w _ _ fuel _ _ hf
  simp [Value.cells] at hcs
  obtain ⟨rfl, rfl, rfl⟩ := hcs
  exact ⟨_, _, l, rfl, hl, hC, hw⟩
/-- AN ARGUMENT THAT IS A STRUCT: its cells. -/
theorem arg_struct {α : Type} {d : Kd α} {Wf : α → Prop} {fs : Array Field} {H : Type} {enc : TypeId × Value → H} {w : World} {r : Reach} {b0 : Nat} {v : Value} {D : DataW H} {p : List MemPlace}
    (ht : P.underlying t = some (.struct fs)) (h : Opens P t d Wf) (hv : Value.okWide P w r b0 t v) (hx : DataW.Trod enc P w 0 (fun _ => true) true t v D p) :
    ∃ (a : α) (cs : List Value), v = .agg ⟨cs⟩ ∧ d.K w a cs ∧ Wf a := by
  obtain ⟨cs, rfl, _⟩ := okWide_struct ht hv
  obtain ⟨fuel, hf⟩ := hx
  obtain ⟨a, ha, hw⟩ := h enc w _ _ fuel _ _ hf
  exact ⟨a, cs.toList, rfl, by simpa [Value.cells] using ha, hw⟩
end
end Go.Proofs.Ytoobbolaoldacaa.Opening
