/-
  Rows that lie in a struct's field: a row of the call's own, or one cut at its length ('l[:i:i]'); what an append leaves of either.
-/
import Derived.Test.YtoobbolaoldacaaY
import Derived.Test.YtoobbolaoldacaaWMore
import Derived.Maps.AppendAt
import Derived.ArgAppend
namespace Go.Proofs.Ytoobbolaoldacaa.RowOwn
open Go.RowKit Go.Proofs.Ytoobbolaoldacaa Go.Proofs.YtoobbolaoldacaaW.PrintWords Go.Proofs.YtoobbolaoldacaaW.PrintMore
set_option linter.unusedVariables false
section
variable {α : Type} {d : Kd α} {e : Nat} {w w1 : World} {base : Nat} {ok ok' : Nat → Prop} {v : Value} {xs : List α}
/-- a row of the call's own, or one whose capacity was cut to its length -/
def Row (d : Kd α) (e : Nat) (w : World) (base : Nat) (ok : Nat → Prop) (v : Value) (xs : List α) : Prop :=
  d.R e w base ok v xs ∨ ∃ g c, v = .slice (some ⟨g, 0, none⟩) xs.length xs.length ∧ d.R e w base ok (.slice (some ⟨g, 0, none⟩) xs.length c) xs
theorem row_nil (d : Kd α) (e : Nat) (w : World) (base : Nat) (ok : Nat → Prop) : Row d e w base ok (.slice none 0 0) [] := .inl (Kd.R_nil d e w base ok)
theorem row_mono (h : Row d e w base ok v xs) (hok : ∀ k, ok k → ok' k) : Row d e w base ok' v xs := by
  rcases h with h | ⟨g, c, rfl, h⟩
  · exact .inl (Kd.R_mono h hok)
  · exact .inr ⟨g, c, rfl, Kd.R_mono h hok⟩
theorem row_step (h : Row d e w base ok v xs) (hm : ∀ k, ok k → k < w.heap.size → w1.heap[k]? = w.heap[k]?) : Row d e w1 base ok v xs := by
  rcases h with h | ⟨g, c, rfl, h⟩
  · exact .inl (Kd.R_step h hm)
  · exact .inr ⟨g, c, rfl, Kd.R_step h hm⟩
theorem row_bound (h : Row d e w base ok v xs) : Row d e w base (fun k => ok k ∧ base ≤ k ∧ k < w.heap.size) v xs := by
  rcases h with h | ⟨g, c, rfl, h⟩
  · exact .inl (Kd.R_mono (Kd.R_bound h) (fun k hk => ⟨hk.1, hk.2.1, hk.2.2.1⟩))
  · exact .inr ⟨g, c, rfl, Kd.R_mono (Kd.R_bound h) (fun k hk => ⟨hk.1, hk.2.1, hk.2.2.1⟩)⟩
theorem row_reads (h : Row d e w base ok v xs) : ∃ A c, v = .slice A xs.length c ∧ xs.length ≤ c ∧ d.C w A xs.length xs := by
  rcases h with h | ⟨g, c, rfl, h⟩
  · exact Kd.R_reads h
  · obtain ⟨_, _, hC⟩ := Kd.R_reads' h
    exact ⟨_, _, rfl, Nat.le_refl _, hC⟩
theorem row_types (h : Row d e w base ok v xs) {g t : Nat} {cells : Array Value} (hb : w.heap[g]? = some (.cells cells t (0, 0))) (ht : ∀ q, q ∈ e :: d.E → q ≠ t) : Row d e w base (fun k => ok k ∧ k ≠ g) v xs := by
  rcases h with h | ⟨g', c, rfl, h⟩
  · exact .inl (Kd.R_types h hb ht)
  · exact .inr ⟨g', c, rfl, Kd.R_types h hb ht⟩
/-- what is known of a row's elements as they stand: made, and readable at the row's address -/
def Made (d : Kd α) (w : World) (base : Nat) (ok : Nat → Prop) (A : Option Addr) (m : Nat) (ys : List α) : Prop :=
  ys.length = m ∧ (0 < m → ∃ ad news, A = some ad ∧ Reps (d.M w base ok) d.sz ys news ∧ ∀ j u, news[j]? = some u → w.cell? (ad.add j) = some u)
theorem row_made (h : Row d e w base ok v xs) : ∃ A c, v = .slice A xs.length c ∧ Made d w base (fun k => ok k ∧ some k ≠ v.ownBlock) A xs.length xs := by
  have key : ∀ {v : Value}, d.R e w base ok v xs → ∃ A c, v = .slice A xs.length c ∧ Made d w base (fun k => ok k ∧ some k ≠ v.ownBlock) A xs.length xs := by
    rintro v ⟨_, inner, ho, hr⟩
    obtain ⟨A, c, rfl⟩ := own_slice ho
    refine ⟨A, c, rfl, rfl, fun hn => ?_⟩
    obtain ⟨ad, rfl, hc⟩ := q_cells (q_of_own ho) hn
    exact ⟨ad, inner, rfl, hr, hc⟩
  rcases h with h | ⟨g, c, rfl, h⟩
  · exact key h
  · obtain ⟨A, c', he, hm⟩ := key h
    injection he with h1 h2 h3
    subst h1
    refine ⟨_, _, rfl, ?_⟩
    have hb : (Value.slice (some (⟨g, 0, none⟩ : Addr)) xs.length c).ownBlock = (Value.slice (some (⟨g, 0, none⟩ : Addr)) xs.length xs.length).ownBlock := rfl
    rw [← hb]
    exact hm
theorem made_drop {A : Option Addr} {n i c : Nat} {ys : List α} (h : Made d w base ok A n ys) (hi : i ≤ n) (hc : n ≤ c) : Made d w base ok (if c = i then A else A.map (·.add (i * d.sz))) (n - i) (ys.drop i) := by
  obtain ⟨h1, h2⟩ := h
  refine ⟨by rw [List.length_drop, h1], fun hn => ?_⟩
  obtain ⟨ad, news, rfl, hr, hcell⟩ := h2 (by omega)
  rw [if_neg (by omega)]
  refine ⟨_, _, rfl, Kd.reps_drop (m := i) hr, fun j u hu => ?_⟩
  rw [List.getElem?_drop] at hu
  have := hcell _ _ hu
  rw [Addr.add_add]
  exact this
theorem made_mono {A : Option Addr} {n : Nat} {ys : List α} (h : Made d w base ok A n ys) (hok : ∀ k, ok k → ok' k) : Made d w base ok' A n ys := by
  refine ⟨h.1, fun hn => ?_⟩
  obtain ⟨ad, news, hA, hr, hcell⟩ := h.2 hn
  exact ⟨ad, news, hA, hr.imp_ (fun _ _ hp => d.M_mono hok hp), hcell⟩
theorem reps_one {ys : List α} {news : List Value} (h : Reps (d.K w) d.sz ys news) (hs0 : 0 < d.sz) : ∀ u ∈ news, u.oneCell' = true := by
  intro u hu
  obtain ⟨q, hq, rfl⟩ := List.mem_iff_getElem.1 hu
  have hj : q / d.sz < ys.length := by
    rw [Nat.div_lt_iff_lt_mul hs0, ← h.1]; exact hq
  have h2 := h.2 (q / d.sz) _ (List.getElem?_eq_getElem hj)
  refine d.K_one h2 _ (List.mem_iff_getElem?.2 ⟨q % d.sz, ?_⟩)
  rw [List.getElem?_take, if_pos (Nat.mod_lt _ hs0), List.getElem?_drop, Nat.mul_comm, Nat.div_add_mod, List.getElem?_eq_getElem hq]
/-- append(l[:i:i], ys...), of a row l: what it leaves -/
theorem cut_append {P : Program} (t ty e : TypeId) (z : Value) (bytes : Nat)
    (ht : P.underlying t = some (.slice e)) (hinfo : (P.info? e).map (fun i => (i.zero, i.size, i.bytes)) = some (some z, d.sz, bytes)) (hz : z.cells.size = d.sz) (hs0 : 0 < d.sz)
    {g c i m c2 : Nat} {A : Option Addr} {ys : List α} (HO : Row d e w base ok (.slice (some ⟨g, 0, none⟩) xs.length c) xs) (hi : i ≤ xs.length)
    (HM : Made d w base (fun k => ok k ∧ k ≠ g) A m ys) (hfresh : ∀ k, w.heap.size ≤ k → ok k) (hbase : base ≤ w.heap.size) (hl : (i + m) * bytes ≤ 140737488355328) (hb0 : 0 < bytes) :
    ∃ v1 w1, (Builtin.append_ #[t, t] ty #[.slice (some ⟨g, 0, none⟩) i i, .slice A m c2]).run P w = .ok v1 w1 ∧ Row d e w1 base ok v1 (xs.take i ++ ys) ∧ w.grownBy w1 none ∧ (v1.ownBlock = some g ∨ ∃ b, v1.ownBlock = some b ∧ w.heap.size ≤ b) := by
  obtain ⟨i0, hi0, hzz⟩ := Option.map_eq_some_iff.1 hinfo
  simp only [Prod.mk.injEq] at hzz
  obtain ⟨hz0, hz1, hz2⟩ := hzz
  have hR : ∃ c, d.R e w base ok (.slice (some ⟨g, 0, none⟩) xs.length c) xs := by
    rcases HO with h | ⟨g', c', he, h⟩
    · exact ⟨_, h⟩
    · injection he with h1 h2 h3
      injection h1 with h1
      injection h1 with h1
      subst h1
      exact ⟨_, h⟩
  obtain ⟨c', hR⟩ := hR
  have hT := Kd.R_take hR hi
  rcases Nat.eq_zero_or_pos m with h0 | hm
  · subst h0
    obtain rfl : ys = [] := List.eq_nil_of_length_eq_zero HM.1
    refine ⟨.slice (some ⟨g, 0, none⟩) i i, w, ?_, .inr ⟨g, c', ?_, ?_⟩, World.grownBy.refl _ _, .inl rfl⟩
    · rcases A with _ | ad
      · simp [Builtin.append_, run_underlying ht, sizeOf, typeInfo, hi0, Builtin.lenOf, Builtin.firstCells, storeCells]
      · simp [Builtin.append_, run_underlying ht, sizeOf, typeInfo, hi0, Builtin.lenOf, Builtin.firstCells, storeCells, loadCells, loadCellsFrom]
    · rw [List.append_nil, List.length_take, Nat.min_eq_left hi]
    · rw [List.append_nil, List.length_take, Nat.min_eq_left hi]
      exact hT
  · obtain ⟨ad, news, rfl, hnr, hcell⟩ := HM.2 hm
    obtain ⟨_, inner, ho, hr⟩ := hT
    have hlen : (xs.take i).length = i := by rw [List.length_take, Nat.min_eq_left hi]
    have hcells : ∀ j u, inner[j]? = some u → w.cell? ((⟨g, 0, none⟩ : Addr).add j) = some u := by
      rcases Nat.eq_zero_or_pos i with hi1 | hi1
      · have : inner = [] := List.eq_nil_of_length_eq_zero (by rw [ho.1, hlen, hi1, Nat.zero_mul])
        subst this
        intro j u hu
        simp at hu
      · have ho' := ho
        rw [hlen] at ho'
        obtain ⟨ad', he, hc⟩ := q_cells (q_of_own ho') hi1
        injection he with he
        subst he
        exact hc
    have hn2 : news.length = m * d.sz := by rw [hnr.1, HM.1]
    obtain ⟨v1, w1, hrun, hown, hg⟩ := run_append_arg_grows (P := P) (w := w) t ty e i0 z d.sz bytes ht hi0 hz0 hz1 hz2 hz hs0 ⟨g, 0, none⟩ i i inner (by rw [ho.1, hlen]) hcells ad m c2 news hn2 hcell (by omega) (by
      have : i + m ≤ (i + m) * bytes := Nat.le_mul_of_pos_right _ hb0
      simp only [maxLen]; omega) hl
    have hat : v1.ownBlock = some g ∨ ∃ b, v1.ownBlock = some b ∧ w.heap.size ≤ b := by
      obtain ⟨b, cap, he, hb, _⟩ := hown.form (by omega)
      exact .inr ⟨b, by rw [he]; simp [Value.ownBlock], hb⟩
    refine ⟨v1, w1, hrun, .inl ?_, hg, hat⟩
    have hmv : ∀ {q : α} {c : List Value} {o : Nat → Prop}, d.M w base o q c → (∀ k, o k → ok k) → d.M w1 base (fun k => ok k ∧ some k ≠ v1.ownBlock) q c := by
      intro q c o hq hoq
      have h1 := d.M_move (w1 := w1) (fun k hk => hg.block k hk.2.2.1 (by simp)) (d.M_bound hq)
      refine d.M_mono (fun k hk => ⟨hoq k hk.1, fun he => ?_⟩) h1
      have := own_base hown k he.symm
      omega
    refine ⟨fun k hk => hfresh k (own_base hown k hk), inner ++ news, ?_, ?_⟩
    · rw [List.length_append, hlen, HM.1]
      exact own_weaken hown hbase
    · exact Kd.reps_append (hr.imp_ (fun _ _ hp => hmv hp (fun _ hk => hk.1))) (hnr.imp_ (fun _ _ hp => hmv hp (fun _ hk => hk.1)))
/-- append(v, ys...), of a row v -/
theorem row_append {P : Program} (t ty e : TypeId) (z : Value) (bytes : Nat)
    (ht : P.underlying t = some (.slice e)) (hinfo : (P.info? e).map (fun i => (i.zero, i.size, i.bytes)) = some (some z, d.sz, bytes)) (hz : z.cells.size = d.sz) (hs0 : 0 < d.sz)
    {m c2 : Nat} {ad : Addr} {ys : List α} {okp : Nat → Prop} (HO : Row d e w base ok v xs)
    (HM : Made d w base okp (some ad) m ys) (hm : 0 < m) (hokp : ∀ k, okp k → ok k ∧ some k ≠ v.ownBlock) (hfresh : ∀ k, w.heap.size ≤ k → ok k) (hbase : base ≤ w.heap.size) (hl : (xs.length + m) * bytes ≤ 140737488355328) (hb0 : 0 < bytes) :
    ∃ v1 w1, (Builtin.append_ #[t, t] ty #[v, .slice (some ad) m c2]).run P w = .ok v1 w1 ∧ Row d e w1 base ok v1 (xs ++ ys) ∧ w.grownBy w1 v.ownBlock ∧ (v1.ownBlock = v.ownBlock ∨ ∃ b, v1.ownBlock = some b ∧ w.heap.size ≤ b) := by
  rcases HO with HO | ⟨g, c, rfl, HO⟩
  · obtain ⟨i0, hi0, hzz⟩ := Option.map_eq_some_iff.1 hinfo
    simp only [Prod.mk.injEq] at hzz
    obtain ⟨hz0, hz1, hz2⟩ := hzz
    obtain ⟨hok, inner, ho, hr⟩ := HO
    obtain ⟨ad', news, he, hnr, hcell⟩ := HM.2 hm
    injection he with he
    subst he
    have hn2 : news.length = m * d.sz := by rw [hnr.1, HM.1]
    have hone : ∀ u ∈ news, u.oneCell' = true := by
      have : Reps (d.K w) d.sz ys news := hnr.imp_ (fun _ _ hp => d.K_of_M hp)
      exact reps_one this hs0
    obtain ⟨v1, w1, hrun, hown, hg, _, hat⟩ := run_append_own_at (P := P) (w := w) base t ty e i0 z d.sz bytes ht hi0 hz0 hz1 hz2 hz hs0 v xs.length inner ho ad m c2 news hn2 hcell hone (by
      have : xs.length + m ≤ (xs.length + m) * bytes := Nat.le_mul_of_pos_right _ hb0
      simp only [maxLen]; omega) hl hbase
    have hat' : v1.ownBlock = v.ownBlock ∨ ∃ b, v1.ownBlock = some b ∧ w.heap.size ≤ b := by
      rcases hat with hat | hat
      · exact .inl hat
      · exact .inr ⟨_, hat, Nat.le_refl _⟩
    refine ⟨v1, w1, hrun, .inl ?_, hg, hat'⟩
    have hne : ∀ k, some k ≠ v.ownBlock → k < w.heap.size → some k ≠ v1.ownBlock := by
      intro k hk hlt
      rcases hat' with hat | ⟨b, hb, hle⟩
      · rw [hat]; exact hk
      · rw [hb]; intro he; injection he with he; omega
    have hmv : ∀ {q : α} {c : List Value} {o : Nat → Prop}, d.M w base o q c → (∀ k, o k → ok k ∧ some k ≠ v.ownBlock) → d.M w1 base (fun k => ok k ∧ some k ≠ v1.ownBlock) q c := by
      intro q c o hq hoq
      have h1 := d.M_move (w1 := w1) (fun k hk => hg.block k hk.2.2.1 (hoq k hk.1).2) (d.M_bound hq)
      exact d.M_mono (fun k hk => ⟨(hoq k hk.1).1, hne k (hoq k hk.1).2 hk.2.2.1⟩) h1
    refine ⟨fun k hk => ?_, inner ++ news, ?_, ?_⟩
    · rcases hat' with hat | ⟨b, hb, hle⟩
      · exact hok k (hat ▸ hk)
      · rw [hb] at hk; injection hk with hk; exact hfresh k (by omega)
    · rw [List.length_append, HM.1]; exact hown
    · exact Kd.reps_append (hr.imp_ (fun _ _ hp => hmv hp (fun _ hk => hk))) (hnr.imp_ (fun _ _ hp => hmv hp hokp))
  · have hb : ∀ k, some k ≠ (Value.slice (some (⟨g, 0, none⟩ : Addr)) xs.length xs.length).ownBlock → k ≠ g := fun k hk he => hk (by subst he; rfl)
    obtain ⟨v1, w1, hrun, hrow, hg, hat⟩ := cut_append (P := P) (c2 := c2) t ty e z bytes ht hinfo hz hs0 (.inl HO) (Nat.le_refl _) (made_mono HM (fun k hk => ⟨(hokp k hk).1, hb k (hokp k hk).2⟩)) hfresh hbase hl hb0
    rw [List.take_length] at hrow
    refine ⟨v1, w1, hrun, hrow, ⟨hg.os, hg.tape, hg.output, hg.size, fun k hk _ => hg.block k hk (by simp)⟩, hat⟩
theorem made_take {A : Option Addr} {n m : Nat} {ys : List α} (h : Made d w base ok A n ys) (hm : m ≤ n) : Made d w base ok A m (ys.take m) := by
  obtain ⟨h1, h2⟩ := h
  refine ⟨by rw [List.length_take, h1, Nat.min_eq_left hm], fun hn => ?_⟩
  obtain ⟨ad, news, rfl, hr, hcell⟩ := h2 (by omega)
  refine ⟨_, _, rfl, Kd.reps_take (m := m) hr (by omega), fun j u hu => hcell j u ?_⟩
  rw [List.getElem?_take] at hu
  split at hu
  · exact hu
  · cases hu
/-- append(v, ys...), of a row v, ys as many as there may be -/
theorem row_append_any {P : Program} (t ty e : TypeId) (z : Value) (bytes : Nat)
    (ht : P.underlying t = some (.slice e)) (hinfo : (P.info? e).map (fun i => (i.zero, i.size, i.bytes)) = some (some z, d.sz, bytes)) (hz : z.cells.size = d.sz) (hs0 : 0 < d.sz)
    {m c2 : Nat} {A : Option Addr} {ys : List α} {okp : Nat → Prop} (HO : Row d e w base ok v xs)
    (HM : Made d w base okp A m ys) (hokp : ∀ k, okp k → ok k ∧ some k ≠ v.ownBlock) (hfresh : ∀ k, w.heap.size ≤ k → ok k) (hbase : base ≤ w.heap.size) (hl : (xs.length + m) * bytes ≤ 140737488355328) (hb0 : 0 < bytes) :
    ∃ v1 w1, (Builtin.append_ #[t, t] ty #[v, .slice A m c2]).run P w = .ok v1 w1 ∧ Row d e w1 base ok v1 (xs ++ ys) ∧ w.grownBy w1 v.ownBlock ∧ (v1.ownBlock = v.ownBlock ∨ ∃ b, v1.ownBlock = some b ∧ w.heap.size ≤ b) := by
  rcases Nat.eq_zero_or_pos m with h0 | hm
  · subst h0
    obtain rfl : ys = [] := List.eq_nil_of_length_eq_zero HM.1
    obtain ⟨i0, hi0, hzz⟩ := Option.map_eq_some_iff.1 hinfo
    obtain ⟨Av, cv, rfl, hc, _⟩ := row_reads HO
    refine ⟨_, w, ?_, by rw [List.append_nil]; exact HO, World.grownBy.refl _ _, .inl rfl⟩
    rcases HO with ⟨_, inner, ho, _⟩ | ⟨g, c, he, _⟩
    · rcases ho.2 with ⟨he, hn⟩ | ⟨g, cap, cur, he, _⟩
      · injection he with h1 h2 h3
        subst h1; subst h3
        rcases A with _ | ad
        · simp [Builtin.append_, run_underlying ht, sizeOf, typeInfo, hi0, Builtin.lenOf, Builtin.firstCells, h2]
        · simp [Builtin.append_, run_underlying ht, sizeOf, typeInfo, hi0, Builtin.lenOf, Builtin.firstCells, loadCells, loadCellsFrom, h2]
      · injection he with h1 h2 h3
        subst h1
        rcases A with _ | ad
        · simp [Builtin.append_, run_underlying ht, sizeOf, typeInfo, hi0, Builtin.lenOf, Builtin.firstCells, hc, storeCells]
        · simp [Builtin.append_, run_underlying ht, sizeOf, typeInfo, hi0, Builtin.lenOf, Builtin.firstCells, hc, storeCells, loadCells, loadCellsFrom]
    · injection he with h1 h2 h3
      subst h1
      rcases A with _ | ad
      · simp [Builtin.append_, run_underlying ht, sizeOf, typeInfo, hi0, Builtin.lenOf, Builtin.firstCells, hc, storeCells]
      · simp [Builtin.append_, run_underlying ht, sizeOf, typeInfo, hi0, Builtin.lenOf, Builtin.firstCells, hc, storeCells, loadCells, loadCellsFrom]
  · obtain ⟨ad, news, rfl, h3⟩ := HM.2 hm
    exact row_append (P := P) t ty e z bytes ht hinfo hz hs0 HO HM hm hokp hfresh hbase hl hb0
/-- an empty row of the call's own -/
theorem empty_R (d : Kd α) (e : Nat) (w : World) (ok : Nat → Prop) (base : Nat) (hb : base ≤ w.heap.size) (hok : ok w.heap.size) : d.R e (w.alloc (.cells #[] e)) base ok (.slice (some ⟨w.heap.size, 0, none⟩) 0 0) [] := by
  refine ⟨fun k hk => ?_, [], ⟨by simp, .inr ⟨w.heap.size, 0, #[], rfl, hb, new_at w _, Nat.le_refl _, by simp [maxLen], by simp, by simp⟩⟩, Reps.none _ _⟩
  have : w.heap.size = k := by simpa [Value.ownBlock] using hk
  subst this
  exact hok
/-- only blocks of S were written; new ones may be there -/
structure OnlyS (S : Nat → Prop) (w w' : World) : Prop where
  os : w'.os = w.os
  tape : w'.tape = w.tape
  output : w'.output = w.output
  size : w.heap.size ≤ w'.heap.size
  block : ∀ k, k < w.heap.size → ¬ S k → w'.heap[k]? = w.heap[k]?
theorem OnlyS.refl (S : Nat → Prop) (w : World) : OnlyS S w w := ⟨rfl, rfl, rfl, Nat.le_refl _, fun _ _ _ => rfl⟩
theorem OnlyS.drewN {S : Nat → Prop} {w w' : World} (h : OnlyS S w w') (n : Nat) : OnlyS S w (w'.drewN n) := ⟨h.os, h.tape, h.output, h.size, h.block⟩
theorem OnlyS.drew {S : Nat → Prop} {w w' : World} (h : OnlyS S w w') : OnlyS S w w'.drew := ⟨h.os, h.tape, h.output, h.size, h.block⟩
theorem OnlyS.alloc {S : Nat → Prop} {w w' : World} (h : OnlyS S w w') (o : Obj) : OnlyS S w (w'.alloc o) :=
  ⟨h.os, h.tape, h.output, by rw [World.size_alloc]; have := h.size; omega, fun k hk hs => (Below.heap_alloc w' o k (Nat.lt_of_lt_of_le hk h.size)).trans (h.block k hk hs)⟩
theorem OnlyS.set {S : Nat → Prop} {w w' : World} (h : OnlyS S w w') (p : Addr) (u : Value) (hp : S p.block ∨ w.heap.size ≤ p.block) : OnlyS S w (w'.setCell p u) :=
  ⟨h.os, h.tape, h.output, by have : (w'.setCell p u).heap.size = w'.heap.size := by simp [World.setCell]
                              rw [this]; exact h.size, fun k hk hs => (Below.heap_setCell w' p u k (fun he => by subst he; rcases hp with hp | hp; exact hs hp; omega)).trans (h.block k hk hs)⟩
theorem OnlyS.below {S : Nat → Prop} {w w' w2 : World} (h : OnlyS S w w') (hb : Below w'.heap.size w' w2) : OnlyS S w w2 :=
  ⟨hb.os.trans h.os, hb.tape.trans h.tape, hb.output.trans h.output, Nat.le_trans h.size hb.size, fun k hk hs => (hb.block k (Nat.lt_of_lt_of_le hk h.size)).trans (h.block k hk hs)⟩
theorem OnlyS.grown {S : Nat → Prop} {w w' w2 : World} {row : Option Nat} (h : OnlyS S w w') (hb : w'.grownBy w2 row) (hr : ∀ k, row = some k → S k ∨ w.heap.size ≤ k) : OnlyS S w w2 :=
  ⟨hb.os.trans h.os, hb.tape.trans h.tape, hb.output.trans h.output, Nat.le_trans h.size hb.size, fun k hk hs => (hb.block k (Nat.lt_of_lt_of_le hk h.size) (fun he => by rcases hr k he.symm with h1 | h1; exact hs h1; omega)).trans (h.block k hk hs)⟩
theorem OnlyS.trans {S T : Nat → Prop} {w w' w2 : World} (h : OnlyS S w w') (hb : OnlyS T w' w2) (hr : ∀ k, T k → S k ∨ w.heap.size ≤ k) : OnlyS S w w2 :=
  ⟨hb.os.trans h.os, hb.tape.trans h.tape, hb.output.trans h.output, Nat.le_trans h.size hb.size, fun k hk hs => (hb.block k (Nat.lt_of_lt_of_le hk h.size) (fun he => by rcases hr k he with h1 | h1; exact hs h1; omega)).trans (h.block k hk hs)⟩
theorem OnlyS.of_below {S : Nat → Prop} {w w' : World} (h : Below w.heap.size w w') : OnlyS S w w' := ⟨h.os, h.tape, h.output, h.size, fun k hk _ => h.block k hk⟩
theorem OnlyS.to_below {S : Nat → Prop} {B : Nat} {w0 w w' : World} (h : OnlyS S w w') (hb : Below B w0 w) (hS : ∀ k, S k → B ≤ k) (hB : B ≤ w.heap.size) : Below B w0 w' :=
  ⟨h.os.trans hb.os, h.tape.trans hb.tape, h.output.trans hb.output, Nat.le_trans hb.size h.size, fun k hk => (h.block k (Nat.lt_of_lt_of_le hk hB) (fun hs => by have := hS k hs; omega)).trans (hb.block k hk)⟩
theorem grown_of_below {w w' : World} (h : Below w.heap.size w w') : w.grownBy w' none := ⟨h.os, h.tape, h.output, h.size, fun k hk _ => h.block k hk⟩
/-- a row, behind writes to blocks that aren't its own -/
theorem row_only {S : Nat → Prop} (h : Row d e w base ok v xs) (ho : OnlyS S w w1) (hok : ∀ k, ok k → ¬ S k) : Row d e w1 base ok v xs := row_step h (fun k hk hlt => ho.block k hlt (hok k hk))
theorem blk_only {S : Nat → Prop} {g : Nat} {o : Obj} (h : w.heap[g]? = some o) (ho : OnlyS S w w1) (hok : ¬ S g) : w1.heap[g]? = some o := (ho.block g (lt_at h) hok).trans h
end
section
variable {α : Type} {d : Kd α} {w : World} {base : Nat} {ok okp : Nat → Prop} {v : Value} {xs : List α}
variable {P : Program} {ops : Array Oper} {o : Oper} {a : Act} {K : Act → World → Prop} {Q : Exit → Act → World → Prop} {E : Prop}
theorem row_append_step (hg : o.guard = none) (s x : Operand) (t e : TypeId) (z : Value) (bytes : Nat)
    (ho : o.op = .call { callee := .builtin .append, args := #[s, x], argTypes := #[t, t] })
    (ht : P.underlying t = some (.slice e)) (hinfo : (P.info? e).map (fun i => (i.zero, i.size, i.bytes)) = some (some z, d.sz, bytes)) (hz : z.cells.size = d.sz) (hs0 : 0 < d.sz) (hb0 : 0 < bytes)
    {m c2 : Nat} {ad : Addr} {ys : List α} (hs : a.eval s = v) (hx : a.eval x = .slice (some ad) m c2) (HO : Row d e w base ok v xs)
    (HM : Made d w base okp (some ad) m ys) (hm : 0 < m) (hokp : ∀ k, okp k → ok k ∧ some k ≠ v.ownBlock) (hfresh : ∀ k, w.heap.size ≤ k → ok k) (hbase : base ≤ w.heap.size) (hl : (xs.length + m) * bytes ≤ 140737488355328)
    (hK : ∀ v1 w1, Row d e w1 base ok v1 (xs ++ ys) → w.grownBy w1 v.ownBlock → (v1.ownBlock = v.ownBlock ∨ ∃ b, v1.ownBlock = some b ∧ w.heap.size ≤ b) → K (a.put o.dst v1) w1) :
    if Region.wanted o (yielded ops a.tmps) = true then Oper.wp P o a w K Q else E := by
  have hw : Region.wanted o (yielded ops a.tmps) = true := by simp [Region.wanted, hg]
  rw [if_pos hw]
  obtain ⟨v1, w1, hrun, h1, h2, h3⟩ := row_append (P := P) (c2 := c2) t o.type e z bytes ht hinfo hz hs0 HO HM hm hokp hfresh hbase hl hb0
  unfold Oper.wp
  simp [execOp, ho, resolve, invoke, builtin, hs, hx, hrun, Result.andThen]
  exact hK _ _ h1 h2 h3
theorem cut_append_step (hg : o.guard = none) (s x : Operand) (t e : TypeId) (z : Value) (bytes : Nat)
    (ho : o.op = .call { callee := .builtin .append, args := #[s, x], argTypes := #[t, t] })
    (ht : P.underlying t = some (.slice e)) (hinfo : (P.info? e).map (fun i => (i.zero, i.size, i.bytes)) = some (some z, d.sz, bytes)) (hz : z.cells.size = d.sz) (hs0 : 0 < d.sz) (hb0 : 0 < bytes)
    {g c i m c2 : Nat} {A : Option Addr} {ys : List α} (hs : a.eval s = .slice (some ⟨g, 0, none⟩) i i) (hx : a.eval x = .slice A m c2)
    (HO : Row d e w base ok (.slice (some ⟨g, 0, none⟩) xs.length c) xs) (hi : i ≤ xs.length)
    (HM : Made d w base (fun k => ok k ∧ k ≠ g) A m ys) (hfresh : ∀ k, w.heap.size ≤ k → ok k) (hbase : base ≤ w.heap.size) (hl : (i + m) * bytes ≤ 140737488355328)
    (hK : ∀ v1 w1, Row d e w1 base ok v1 (xs.take i ++ ys) → w.grownBy w1 none → K (a.put o.dst v1) w1) :
    if Region.wanted o (yielded ops a.tmps) = true then Oper.wp P o a w K Q else E := by
  have hw : Region.wanted o (yielded ops a.tmps) = true := by simp [Region.wanted, hg]
  rw [if_pos hw]
  obtain ⟨v1, w1, hrun, h1, h2, h3⟩ := cut_append (P := P) (c2 := c2) t o.type e z bytes ht hinfo hz hs0 HO hi HM hfresh hbase hl hb0
  unfold Oper.wp
  simp [execOp, ho, resolve, invoke, builtin, hs, hx, hrun, Result.andThen]
  exact hK _ _ h1 h2
theorem row_append_list {rest : List Oper} (hgd : o.guard = none) (s x : Operand) (t e : TypeId) (z : Value) (bytes : Nat)
    (ho : o.op = .call { callee := .builtin .append, args := #[s, x], argTypes := #[t, t] })
    (ht : P.underlying t = some (.slice e)) (hinfo : (P.info? e).map (fun i => (i.zero, i.size, i.bytes)) = some (some z, d.sz, bytes)) (hz : z.cells.size = d.sz) (hs0 : 0 < d.sz) (hb0 : 0 < bytes)
    {m c2 : Nat} {A : Option Addr} {ys : List α} (hs : a.eval s = v) (hx : a.eval x = .slice A m c2) (HO : Row d e w base ok v xs)
    (HM : Made d w base okp A m ys) (hokp : ∀ k, okp k → ok k ∧ some k ≠ v.ownBlock) (hfresh : ∀ k, w.heap.size ≤ k → ok k) (hbase : base ≤ w.heap.size) (hl : (xs.length + m) * bytes ≤ 140737488355328)
    (hK : ∀ v1 w1, Row d e w1 base ok v1 (xs ++ ys) → w.grownBy w1 v.ownBlock → (v1.ownBlock = v.ownBlock ∨ ∃ b, v1.ownBlock = some b ∧ w.heap.size ≤ b) → wpList P ops Q rest (a.put o.dst v1) w1) :
    wpList P ops Q (o :: rest) a w := by
  obtain ⟨v1, w1, hr, h1, h2, h3⟩ := row_append_any (P := P) (c2 := c2) t o.type e z bytes ht hinfo hz hs0 HO HM hokp hfresh hbase hl hb0
  refine wpList_plain hgd fun K hK' => ?_
  unfold Oper.wp execOp
  simp only [ho, resolve, invoke, builtin, Sem.run_bind, Sem.run_pure, Result.andThen_ok, List.map_toArray, List.map_cons, List.map_nil, hs, hx, hr]
  exact hK' _ _ (hK v1 w1 h1 h2 h3)
theorem cut_append_list {rest : List Oper} (hgd : o.guard = none) (s x : Operand) (t e : TypeId) (z : Value) (bytes : Nat)
    (ho : o.op = .call { callee := .builtin .append, args := #[s, x], argTypes := #[t, t] })
    (ht : P.underlying t = some (.slice e)) (hinfo : (P.info? e).map (fun i => (i.zero, i.size, i.bytes)) = some (some z, d.sz, bytes)) (hz : z.cells.size = d.sz) (hs0 : 0 < d.sz) (hb0 : 0 < bytes)
    {g c i m c2 : Nat} {A : Option Addr} {ys : List α} (hs : a.eval s = .slice (some ⟨g, 0, none⟩) i i) (hx : a.eval x = .slice A m c2)
    (HO : Row d e w base ok (.slice (some ⟨g, 0, none⟩) xs.length c) xs) (hi : i ≤ xs.length)
    (HM : Made d w base (fun k => ok k ∧ k ≠ g) A m ys) (hfresh : ∀ k, w.heap.size ≤ k → ok k) (hbase : base ≤ w.heap.size) (hl : (i + m) * bytes ≤ 140737488355328)
    (hK : ∀ v1 w1, Row d e w1 base ok v1 (xs.take i ++ ys) → w.grownBy w1 none → wpList P ops Q rest (a.put o.dst v1) w1) :
    wpList P ops Q (o :: rest) a w := by
  obtain ⟨v1, w1, hr, h1, h2, h3⟩ := cut_append (P := P) (c2 := c2) t o.type e z bytes ht hinfo hz hs0 HO hi HM hfresh hbase hl hb0
  refine wpList_plain hgd fun K hK' => ?_
  unfold Oper.wp execOp
  simp only [ho, resolve, invoke, builtin, Sem.run_bind, Sem.run_pure, Result.andThen_ok, List.map_toArray, List.map_cons, List.map_nil, hs, hx, hr]
  exact hK' _ _ (hK v1 w1 h1 h2)
theorem row_own_g {e : Nat} (h : Row d e w base ok v xs) (k : Nat) (hk : v.ownBlock = some k) : ok k := by
  rcases h with h | ⟨g, c, rfl, h⟩
  · exact h.1 k hk
  · exact h.1 k hk
theorem row_head_g {e n c : Nat} {A : Option Addr} (h : Row d e w base ok (.slice A n c) xs) (hp : 0 < xs.length) : ∃ g, A = some ⟨g, 0, none⟩ := by
  rcases h with h | ⟨g, c', he, h⟩
  · obtain ⟨_, _, hC⟩ := Kd.R_reads' h
    obtain ⟨ad, rfl, _⟩ := hC.2.2 hp
    obtain ⟨g, rfl⟩ := Kd.R_head h
    exact ⟨g, rfl⟩
  · injection he with he
    exact ⟨g, he⟩
end
end Go.Proofs.Ytoobbolaoldacaa.RowOwn
