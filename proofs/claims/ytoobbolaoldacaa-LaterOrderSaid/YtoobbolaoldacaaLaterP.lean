/-
  What the verdicts come to, as plain facts.
-/
import Derived.Test.YtoobbolaoldacaaLaterSP
import Derived.Test.YtoobbolaoldacaaLaterx4
namespace Go.Proofs.Ytoobbolaoldacaa.LaterP
open Go.RowKit Go.Proofs.Ytoobbolaoldacaa.Later Go.Proofs.Ytoobbolaoldacaa.LaterSP Go.Proofs.YtoobbolaoldacaaW.PrintWords Go.Proofs.YtoobbolaoldacaaW.PrintMore
theorem add_one (i : Int) (h0 : 0 ≤ i) (h1 : i < 1000000) : wrap64 (i + 1) = i + 1 := by unfold wrap64; omega
theorem clMeets_eq (so sl o n : Int) (b : Bool) : clMeets so sl o n b = meetB o n so sl := by
  unfold clMeets; rw [overlap_p]; rfl
theorem clHolds_eq (so sl o n : Int) (b : Bool) : clHolds so sl o n b = (meetB o n so sl && ((meetN o n so sl).1 == so && (meetN o n so sl).2.1 == sl)) := by
  unfold clHolds; rw [holds_p]; rfl
def conv (x : S140) : S38 := ⟨⟨x.f0.f0, x.f0.f1⟩, x.f1⟩
theorem rd_at140 (l : List S140) (i : Nat) (h : i < l.length) : rd_T140 l (i : Int) = l[i] := by
  unfold rd_T140
  rw [Int.toNat_natCast, List.getD_eq_getElem?_getD, List.getElem?_eq_getElem h]
  rfl
theorem owns_loop (l : List S140) (hl : l.length ≤ 100) : ∀ (d i k : Nat), i + d = l.length → d < k → twainlaw23_Owns.l0 k ((l.take i).map conv) l (l.length : Int) (i : Int) = some (l.map conv) := by
  intro d
  induction d with
  | zero =>
    intro i k hi hk
    obtain ⟨k, rfl⟩ : ∃ j, k = j + 1 := ⟨k - 1, by omega⟩
    simp only [twainlaw23_Owns.l0]
    rw [if_neg (by omega), List.take_of_length_le (by omega)]
  | succ d ih =>
    intro i k hi hk
    obtain ⟨k, rfl⟩ : ∃ j, k = j + 1 := ⟨k - 1, by omega⟩
    simp only [twainlaw23_Owns.l0]
    have hil : i < l.length := by omega
    rw [if_pos (by omega), if_pos (by omega), if_pos (by omega), if_pos (by simp; omega), rd_at140 l i hil, add_one _ (by omega) (by omega), show (i : Int) + 1 = ((i + 1 : Nat) : Int) by omega]
    have := ih (i + 1) k (by omega) (by omega)
    rw [List.take_add_one, List.getElem?_eq_getElem hil, List.map_append] at this
    exact this
theorem owns_p (l : List S140) (hl : l.length ≤ 100) (k : Nat) (hk : 100 < k) : twainlaw23_Owns.f k l = some (l.map conv) := by
  have := owns_loop l hl l.length 0 k (by omega) (by omega)
  exact this
def vN (a : Bool) (so sl : Int) (l : List S140) : Int :=
  if a then (if l.any (fun x => clHolds so sl x.f0.f0 x.f0.f1 x.f1) then 1 else if l.any (fun x => clMeets so sl x.f0.f0 x.f0.f1 x.f1) then 2 else 0) else if l.any (fun x => clBlocks so sl x.f0.f0 x.f0.f1 x.f1) then 3 else 0
theorem verdict_p (a : Bool) (so sl : Int) (l : List S140) : clash_Verdict.f a (l.map conv) so sl = some (vN a so sl l) := by
  unfold clash_Verdict.f vN
  simp only [List.any_map]
  rfl
theorem ref_holds (so sl o n : Int) (b : Bool) (k : Nat) (hk : 2 ≤ k) : twainref04_Holds.f k o n so sl = some (clHolds so sl o n b) := by
  rw [ref_holds_p _ _ _ _ k hk, clHolds_eq]
theorem ref_meets (so sl o n : Int) (b : Bool) (k : Nat) (hk : 2 ≤ k) : twainref04_Overlap.f k o n so sl = some (clMeets so sl o n b) := by
  rw [ref_overlap_p _ _ _ _ k hk, clMeets_eq]
theorem ref_arb (so sl : Int) (l : List S140) (hl : l.length ≤ 100) : ∀ (d i k : Nat) (x7 : Bool), i + d = l.length → d + 5 < k →
    twainref23_Verdict.l0 k true x7 l (l.length : Int) (i : Int) so sl = some (if (l.drop i).any (fun x => clHolds so sl x.f0.f0 x.f0.f1 x.f1) then 1 else if x7 || (l.drop i).any (fun x => clMeets so sl x.f0.f0 x.f0.f1 x.f1) then 2 else 0) := by
  intro d
  induction d with
  | zero =>
    intro i k x7 hi hk
    obtain ⟨k, rfl⟩ : ∃ j, k = j + 1 := ⟨k - 1, by omega⟩
    simp only [twainref23_Verdict.l0]
    rw [if_neg (by omega), show l.drop i = [] from List.drop_eq_nil_of_le (by omega)]
    cases x7 <;> rfl
  | succ d ih =>
    intro i k x7 hi hk
    obtain ⟨k, rfl⟩ : ∃ j, k = j + 1 := ⟨k - 1, by omega⟩
    simp only [twainref23_Verdict.l0]
    have hil : i < l.length := by omega
    rw [if_pos (by omega), if_pos (by omega), if_pos (by omega), rd_at140 l i hil, add_one _ (by omega) (by omega), show (i : Int) + 1 = ((i + 1 : Nat) : Int) by omega, ref_holds _ _ _ _ (l[i]).f1 k (by omega), Option.bind_some, ref_meets _ _ _ _ (l[i]).f1 k (by omega), Option.bind_some, ih (i + 1) k _ (by omega) (by omega), ih (i + 1) k _ (by omega) (by omega), List.drop_eq_getElem_cons hil, List.any_cons, List.any_cons]
    cases clHolds so sl l[i].f0.f0 l[i].f0.f1 l[i].f1 <;> cases x7 <;> cases clMeets so sl l[i].f0.f0 l[i].f0.f1 l[i].f1 <;> simp
theorem ref_not (so sl : Int) (l : List S140) (hl : l.length ≤ 100) : ∀ (d i k : Nat) (x7 : Bool), i + d = l.length → d + 5 < k →
    twainref23_Verdict.l0 k false x7 l (l.length : Int) (i : Int) so sl = some (if x7 || (l.drop i).any (fun x => clBlocks so sl x.f0.f0 x.f0.f1 x.f1) then 3 else 0) := by
  intro d
  induction d with
  | zero =>
    intro i k x7 hi hk
    obtain ⟨k, rfl⟩ : ∃ j, k = j + 1 := ⟨k - 1, by omega⟩
    simp only [twainref23_Verdict.l0]
    rw [if_neg (by omega), show l.drop i = [] from List.drop_eq_nil_of_le (by omega)]
    cases x7 <;> rfl
  | succ d ih =>
    intro i k x7 hi hk
    obtain ⟨k, rfl⟩ : ∃ j, k = j + 1 := ⟨k - 1, by omega⟩
    simp only [twainref23_Verdict.l0]
    have hil : i < l.length := by omega
    rw [if_pos (by omega), if_pos (by omega), if_pos (by omega), rd_at140 l i hil, add_one _ (by omega) (by omega), show (i : Int) + 1 = ((i + 1 : Nat) : Int) by omega, ref_meets _ _ _ _ (l[i]).f1 k (by omega), Option.bind_some, ih (i + 1) k _ (by omega) (by omega), ih (i + 1) k _ (by omega) (by omega), ih (i + 1) k _ (by omega) (by omega), List.drop_eq_getElem_cons hil, List.any_cons]
    unfold clBlocks
    cases l[i].f1 <;> cases x7 <;> cases clMeets so sl l[i].f0.f0 l[i].f0.f1 _ <;> simp
theorem ref_verdict_p (a : Bool) (so sl : Int) (l : List S140) (hl : l.length ≤ 100) (k : Nat) (hk : 110 < k) : twainref23_Verdict.f k a l so sl = some (vN a so sl l) := by
  unfold twainref23_Verdict.f vN
  cases a
  · have := ref_not so sl l hl l.length 0 k false (by omega) (by omega)
    simpa using this
  · have := ref_arb so sl l hl l.length 0 k false (by omega) (by omega)
    simpa using this
theorem verdict_at (so sl : Int) (l : List S38) : clash_Verdict.f false l so sl = some (if l.any (fun x => clBlocks so sl x.f0.f0 x.f0.f1 x.f1) then 3 else 0) := rfl
theorem add_one' (i : Int) (h0 : 0 ≤ i) (h1 : i < 9223372036854775807) : wrap64 (i + 1) = i + 1 := by unfold wrap64; omega
theorem rd_at27 (l : List S27) (i : Nat) (h : i < l.length) : rd_T27 l (i : Int) = l[i] := by
  unfold rd_T27
  rw [Int.toNat_natCast, List.getD_eq_getElem?_getD, List.getElem?_eq_getElem h]
  rfl
theorem spans_loop (l : List S27) (hl : l.length ≤ 100000) : ∀ (d i k : Nat), i + d = l.length → d < k → twainref04_Spans.l0 k l l (l.length : Int) (i : Int) = some true := by
  intro d
  induction d with
  | zero =>
    intro i k hi hk
    obtain ⟨k, rfl⟩ : ∃ j, k = j + 1 := ⟨k - 1, by omega⟩
    simp only [twainref04_Spans.l0]
    rw [if_neg (by omega)]
  | succ d ih =>
    intro i k hi hk
    obtain ⟨k, rfl⟩ : ∃ j, k = j + 1 := ⟨k - 1, by omega⟩
    simp only [twainref04_Spans.l0]
    have hil : i < l.length := by omega
    rw [if_pos (by omega), if_pos (by omega), if_pos (by omega), if_pos (by omega), rd_at27 l i hil, if_neg (by simp), add_one' _ (by omega) (by omega), show (i : Int) + 1 = ((i + 1 : Nat) : Int) by omega]
    exact ih (i + 1) k (by omega) (by omega)
theorem spans_p (l : List S27) (hl : l.length ≤ 100000) (k : Nat) (hk : l.length < k) : twainref04_Spans.f k l l = some true := by
  unfold twainref04_Spans.f
  rw [if_pos rfl]
  exact spans_loop l hl l.length 0 k (by omega) (by omega)
end Go.Proofs.Ytoobbolaoldacaa.LaterP
