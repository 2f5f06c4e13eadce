/-
  How an argument of a statement opens, the sizes of the slices in it told too.
-/
import Derived.Test.YtoobbolaoldacaaOpen
namespace Go.Proofs.Ytoobbolaoldacaa.OpenW
open Go.ChangeShapes Go.WideShapes Go.RowKit Go.Deep Go.Proofs.YtoobbolaoldacaaW.PrintWords

theorem mem_all {H : Type} {P : Program} {e : TypeId} {n : Nat} {d : DataW H} : ∀ {l : List (DataW H)}, d ∈ l → n ∈ d.weights P e → n ∈ DataW.weightsAll P e l
  | [], h, _ => by cases h
  | x :: l, h, hn => by
    show n ∈ x.weights P e ++ DataW.weightsAll P e l
    rw [List.mem_append]
    rcases List.mem_cons.1 h with rfl | h
    · exact .inl hn
    · exact .inr (mem_all h hn)
theorem mem_each {H : Type} {P : Program} {n : Nat} {d : DataW H} {t : TypeId} : ∀ {ts : List TypeId} {l : List (DataW H)} {i : Nat}, ts[i]? = some t → l[i]? = some d → n ∈ d.weights P t → n ∈ DataW.weightsEach P ts l
  | [], _, _, h, _, _ => by simp at h
  | _ :: _, [], _, _, h, _ => by simp at h
  | u :: ts, x :: l, 0, h1, h2, hn => by
    simp at h1 h2
    subst h1
    subst h2
    show n ∈ x.weights P u ++ DataW.weightsEach P ts l
    exact List.mem_append.2 (.inl hn)
  | u :: ts, x :: l, i + 1, h1, h2, hn => by
    show n ∈ x.weights P u ++ DataW.weightsEach P ts l
    refine List.mem_append.2 (.inr (mem_each (i := i) ?_ ?_ hn))
    · simpa using h1
    · simpa using h2
/-- WHAT READS AT TYPE t, WITHIN THE FORM'S REACH, IS OF THE KIND d, AND FITS. -/
def Opens {α : Type} (P : Program) (t : TypeId) (d : Kd α) (Wf : α → Prop) : Prop :=
  ∀ {H : Type} (enc : TypeId × Value → H) (w : World) (spare : Nat → Bool) (held : Bool) (fuel : Nat) (cs : List Value) (x : DataW H × List MemPlace), DataW.trod enc P w 0 spare held fuel t cs = some x → (∀ n ∈ x.1.weights P t, n ≤ reachBytes) → ∃ a : α, d.K w a cs ∧ Wf a
section
variable {P : Program} {t e : TypeId}
theorem opens_int {k : IntKind} (ht : P.underlying t = some (.int k)) : Opens P t (Kd.int k) (fun x => (Lit.int k x).wf = true) := fun enc w spare held fuel cs x h _ => Opening.opens_int ht enc w spare held fuel cs x h
theorem opens_bool (ht : P.underlying t = some .bool) : Opens P t Kd.bool (fun _ => True) := fun enc w spare held fuel cs x h _ => Opening.opens_bool ht enc w spare held fuel cs x h
theorem opens_slice {α : Type} {d : Kd α} {Wf : α → Prop} (ht : P.underlying t = some (.slice e)) (hsz : P.cellsOf e = d.sz) (h : Opens P e d Wf) (hbt : (P.bytesOf e != 0) = true := by kernel_rfl) : Opens P t (Kd.slice e d) (fun l => l.length ≤ reachBytes ∧ ∀ x ∈ l, Wf x) := by
  intro H enc w spare held fuel cs x hx hwt
  rcases open_slice ht hx with ⟨rfl, _⟩ | ⟨a, len, cap, m, n, D, Pl, rfl, _, hl, hm, hmm, hxe, hel⟩
  · refine ⟨[], ⟨none, 0, rfl, Nat.le_refl _, rfl, by simp, fun hp => absurd hp (by simp)⟩, by simp [reachBytes], fun x hx => by cases hx⟩
  · have hle : len ≤ m := by rw [hmm]; split <;> omega
    subst hxe
    have hw0 : ∀ k ∈ (DataW.slice ((List.range len).map D) ((List.range (m - len)).map fun j => D (len + j))).weights P t, k ≤ reachBytes := hwt
    have hexp : (DataW.slice ((List.range len).map D) ((List.range (m - len)).map fun j => D (len + j))).weights P t = (((List.range len).map D).length + ((List.range (m - len)).map fun j => D (len + j)).length) * P.bytesOf e :: (DataW.weightsAll P e ((List.range len).map D) ++ DataW.weightsAll P e ((List.range (m - len)).map fun j => D (len + j))) := by
      simp only [DataW.weights, ht]
    rw [hexp] at hw0
    have hbytes : len ≤ reachBytes := by
      have h1 := hw0 _ List.mem_cons_self
      rw [List.length_map, List.length_range, List.length_map, List.length_range] at h1
      have hb : 1 ≤ P.bytesOf e := Nat.one_le_iff_ne_zero.2 (by simpa using hbt)
      have h2 : len * 1 ≤ (len + (m - len)) * P.bytesOf e := Nat.mul_le_mul (by omega) hb
      omega
    have key : ∀ i, i < len → ∃ a' : α, ∃ cs', d.K w a' cs' ∧ Wf a' ∧ w.cells? 0 (a.add (i * d.sz)) d.sz = some cs' := by
      intro i hi
      obtain ⟨cs', h1, h2⟩ := hel i (by omega)
      obtain ⟨a', hk, hw⟩ := h enc w spare held n cs' _ h2 (fun k hk => hw0 k (List.mem_cons_of_mem _ (List.mem_append.2 (.inl (mem_all (d := D i) (List.mem_map.2 ⟨i, List.mem_range.2 hi, rfl⟩) hk)))))
      rw [hsz] at h1
      exact ⟨a', cs', hk, hw, h1⟩
    have tot : ∀ j, j ≤ len → ∃ l : List α, l.length = j ∧ ∀ i, ∀ a', l[i]? = some a' → ∃ cs', d.K w a' cs' ∧ Wf a' ∧ w.cells? 0 (a.add (i * d.sz)) d.sz = some cs' := by
      intro j
      induction j with
      | zero => exact fun _ => ⟨[], rfl, fun i a' hi => by simp at hi⟩
      | succ j ih =>
        intro hj
        obtain ⟨l, hl', hL⟩ := ih (by omega)
        obtain ⟨a', cs', h1, h2, h3⟩ := key j (by omega)
        refine ⟨l ++ [a'], by simp [hl'], fun i b hb => ?_⟩
        rcases Nat.lt_or_ge i l.length with hi | hi
        · rw [List.getElem?_append_left hi] at hb
          exact hL i b hb
        · have hi' : i = l.length := by
            have := (List.getElem?_eq_some_iff.1 hb).1
            simp at this
            omega
          subst hi'
          simp at hb
          subst hb
          rw [hl']
          exact ⟨cs', h1, h2, h3⟩
    obtain ⟨l, hlen, hL⟩ := tot len (Nat.le_refl _)
    refine ⟨l, ⟨some a, cap, by rw [hlen], by rw [hlen]; exact hl, rfl, by rw [hlen]; simp only [maxLen] at hm; omega, fun _ => ⟨a, rfl, fun j p hj => ?_⟩⟩, by rw [hlen]; exact hbytes, fun x hx => ?_⟩
    · obtain ⟨cs', hk, _, hc⟩ := hL j p hj
      obtain ⟨_, hlc, hcell⟩ := World.cells?_some hc
      refine ⟨cs', hlc, hk, fun i u hu => ?_⟩
      have hi : i < cs'.length := (List.getElem?_eq_some_iff.1 hu).1
      have h2 := hcell i (by omega)
      rw [Go.Deep.add_add] at h2
      rw [h2, hu]
    · obtain ⟨i, hi⟩ := List.getElem?_of_mem hx
      obtain ⟨_, _, hw, _⟩ := hL i x hi
      exact hw
/-- Fields in line, from an offset on. -/
def OpensF {α : Type} (P : Program) (fs : List Field) (off : Nat) (d : Kd α) (Wf : α → Prop) : Prop :=
  ∀ {H : Type} (enc : TypeId × Value → H) (w : World) (spare : Nat → Bool) (held : Bool) (fuel : Nat) (cs : List Value),
    (∀ f ∈ fs, ∃ x, DataW.trod enc P w 0 spare held fuel f.type ((cs.drop f.offset).take (P.cellsOf f.type)) = some x ∧ ∀ n ∈ x.1.weights P f.type, n ≤ reachBytes) → ∃ a : α, d.K w a ((cs.drop off).take d.sz) ∧ Wf a
theorem opensF_one {α : Type} {d : Kd α} {Wf : α → Prop} {f : Field} {off : Nat} (ho : f.offset = off) (hsz : P.cellsOf f.type = d.sz) (h : Opens P f.type d Wf) : OpensF P [f] off d Wf := by
  intro H enc w spare held fuel cs hx
  obtain ⟨x, hx, hw⟩ := hx f (List.mem_singleton.2 rfl)
  rw [ho, hsz] at hx
  exact h enc w spare held fuel _ x hx hw
theorem opensF_cons {α β : Type} {d : Kd α} {Wf : α → Prop} {d' : Kd β} {Wf' : β → Prop} {f : Field} {fs : List Field} {off : Nat} (ho : f.offset = off) (hsz : P.cellsOf f.type = d.sz) (h : Opens P f.type d Wf) (h' : OpensF P fs (off + d.sz) d' Wf') :
    OpensF P (f :: fs) off (Kd.pair d d') (fun x => Wf x.1 ∧ Wf' x.2) := by
  intro H enc w spare held fuel cs hx
  obtain ⟨x, h0, hw⟩ := hx f List.mem_cons_self
  rw [ho, hsz] at h0
  obtain ⟨a, ha, wa⟩ := h enc w spare held fuel _ x h0 hw
  obtain ⟨b, hb, wb⟩ := h' enc w spare held fuel cs (fun g hg => hx g (List.mem_cons_of_mem _ hg))
  refine ⟨(a, b), ⟨_, _, ?_, ha, hb⟩, wa, wb⟩
  show (cs.drop off).take (d.sz + d'.sz) = _
  rw [List.take_add, List.drop_drop]
theorem opens_struct {α β : Type} {d : Kd α} {Wf : α → Prop} {fs : Array Field} {f : β → α} (g : α → β) (hfg : ∀ a, f (g a) = a) (ht : P.underlying t = some (.struct fs)) (hsz : P.cellsOf t = d.sz) (h : OpensF P fs.toList 0 d Wf) :
    Opens P t (Kd.iso d f) (fun b => Wf (f b)) := by
  intro H enc w spare held fuel cs x hx hwt
  obtain ⟨xs, n, _, hxe, hl, hlen, hf⟩ := DataW.trod_struct ht hx
  subst hxe
  have hw0 : ∀ k ∈ (DataW.agg (xs.map (·.1))).weights P t, k ≤ reachBytes := hwt
  have hexp : (DataW.agg (xs.map (·.1))).weights P t = DataW.weightsEach P (fs.toList.map (·.type)) (xs.map (·.1)) := by
    simp only [DataW.weights, ht]
  rw [hexp] at hw0
  obtain ⟨a, ha, wa⟩ := h enc w spare held n cs (fun q hq => by
    obtain ⟨i, hi⟩ := List.getElem?_of_mem hq
    have hi2 : fs[i]? = some q := by simpa using hi
    have hlt : i < xs.length := by rw [hlen]; exact (Array.getElem?_eq_some_iff.1 hi2).1
    refine ⟨xs[i], by rw [hf i q hi2, List.getElem?_eq_getElem hlt], fun k hk => hw0 k (mem_each (i := i) (t := q.type) (d := xs[i].1) ?_ ?_ hk)⟩
    · rw [List.getElem?_map, hi]; rfl
    · rw [List.getElem?_map, List.getElem?_eq_getElem hlt]; rfl)
  refine ⟨g a, ?_, by show Wf (f (g a)); rw [hfg]; exact wa⟩
  show d.K w (f (g a)) cs
  rw [hfg]
  rwa [List.drop_zero, ← hsz, ← hl, List.take_length] at ha
/-- AN ARGUMENT THAT IS A SLICE: its value, its list. -/
theorem arg_slice {α : Type} {d : Kd α} {Wf : List α → Prop} {H : Type} {enc : TypeId × Value → H} {w : World} {r : Reach} {b0 : Nat} {v : Value} {D : DataW H} {p : List MemPlace}
    (ht : P.underlying t = some (.slice e)) (h : Opens P t (Kd.slice e d) Wf) (hv : Value.okWide P w r b0 t v) (hx : DataW.Trod enc P w 0 (fun _ => true) true t v D p) (hwt : ∀ n ∈ D.weights P t, n ≤ reachBytes) :
    ∃ A c l, v = .slice A l.length c ∧ l.length ≤ c ∧ Kd.C d w A l.length l ∧ Wf l := by
  obtain ⟨a0, len, cap, rfl⟩ := okWide_slice ht hv
  obtain ⟨fuel, hf⟩ := hx
  obtain ⟨l, ⟨A, c, hcs, hl, hC⟩, hw⟩ := h enc w _ _ fuel _ _ hf hwt
  simp [Value.cells] at hcs
  obtain ⟨rfl, rfl, rfl⟩ := hcs
  exact ⟨_, _, l, rfl, hl, hC, hw⟩
end
end Go.Proofs.Ytoobbolaoldacaa.OpenW
