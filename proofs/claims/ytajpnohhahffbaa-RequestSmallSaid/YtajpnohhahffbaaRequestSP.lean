/-
  Plain facts: what the functions come to (Request).
-/
import Derived.Test.YtajpnohhahffbaaRequestx2
import Derived.Test.YtajpnohhahffbaaRequestx4
import Derived.Test.YtajpnohhahffbaaRequestx5
import Derived.Test.YtajpnohhahffbaaRequestBP
import Derived.Laws.BitsAllLaws
namespace Go.Proofs.Ytajpnohhahffbaa.RequestSP
open Go.RowKit Go.Proofs.Ytajpnohhahffbaa.Request Go.Proofs.Ytajpnohhahffbaa.RequestBP Go.Proofs.Ytajpnohhahffbaa.BitsPlain Go.Proofs.YtajpnohhahffbaaW.PrintWords Go.Proofs.YtajpnohhahffbaaW.PrintMore
def spanPl (o l : Int) : Bool := decide (0 ≤ o) && decide (o ≤ 1073741824) && (decide (0 ≤ l) && decide (l ≤ 1073741824))
theorem spanPl_f (o l : Int) : span_Plain.f o l = some (spanPl o l) := by
  unfold span_Plain.f span_within.f spanPl
  by_cases h1 : 0 ≤ o <;> by_cases h2 : o ≤ 1073741824 <;> by_cases h3 : 0 ≤ l <;> simp [h1, h2, h3]
def spanEnd (o l : Int) : Int := if spanPl o l then o + l else 0
theorem spanEnd_f (o l : Int) : span_End.f o l = some (spanEnd o l) := by
  unfold span_End.f spanEnd
  rw [spanPl_f, Option.bind_some]
  cases h : spanPl o l
  · simp
  · simp [spanPl] at h
    simp
    unfold wrap64
    omega
set_option maxRecDepth 10000 in
theorem pl_iff (o l : Int) : spanPl o l = true ↔ 0 ≤ o ∧ o ≤ 1073741824 ∧ 0 ≤ l ∧ l ≤ 1073741824 := by
  simp [spanPl, and_assoc]
theorem plain_p (o l : Int) : span_Plain.f o l = some (spanPl o l) := spanPl_f o l
theorem ref_plain_p (o l : Int) : twainref04_Plain.f o l = some (spanPl o l) := by
  unfold twainref04_Plain.f spanPl
  by_cases h1 : 0 ≤ o <;> by_cases h2 : o ≤ 1073741824 <;> by_cases h3 : 0 ≤ l <;> simp [h1, h2, h3]
theorem sum_w {o l : Int} (h : spanPl o l = true) : wrap64 (o + l) = o + l := by
  rw [pl_iff] at h
  unfold wrap64
  omega
theorem end_p (o l : Int) : span_End.f o l = some (spanEnd o l) := spanEnd_f o l
def goodB (o l s : Int) : Bool := spanPl o l && decide (0 < l) && decide (o + l ≤ s)
theorem good_p (o l s : Int) : span_Good.f o l s = some (goodB o l s) := by
  unfold span_Good.f goodB
  rw [plain_p, Option.bind_some]
  by_cases h : spanPl o l = true
  · rw [if_pos h, end_p, h]
    have : spanEnd o l = o + l := by unfold spanEnd; rw [if_pos h]
    rw [this]
    by_cases hl : 0 < l
    · simp [hl]
    · simp [hl]
  · rw [if_neg h]
    simp [h]
theorem ref_good_p (o l s : Int) : twainref04_Good.f o l s = some (goodB o l s) := by
  unfold twainref04_Good.f goodB
  rw [ref_plain_p, Option.bind_some]
  by_cases h : spanPl o l = true
  · rw [if_pos h, h, sum_w h]
    by_cases hl : 0 < l
    · simp [hl, show 1 ≤ l by omega]
    · simp [hl, show ¬ 1 ≤ l by omega]
  · rw [if_neg h]
    simp [h]
def meetB (ao al bo bl : Int) : Bool := spanPl ao al && spanPl bo bl && decide (max ao bo < min (ao + al) (bo + bl))
def meetN (ao al bo bl : Int) : Int × Int × Bool := if meetB ao al bo bl then (max ao bo, min (ao + al) (bo + bl) - max ao bo, true) else (0, 0, false)
theorem ref_meet_p (ao al bo bl : Int) (k : Nat) (hk : 2 ≤ k) : twainref04_Meet.f k ao al bo bl = some (meetN ao al bo bl) := by
  obtain ⟨k, rfl⟩ : ∃ j, k = j + 2 := ⟨k - 2, by omega⟩
  unfold twainref04_Meet.f meetN meetB
  rw [ref_plain_p, Option.bind_some]
  simp only [twainref04_Meet.j0, twainref04_Meet.j1]
  by_cases h : spanPl ao al = true
  · rw [if_pos h, ref_plain_p, Option.bind_some]
    by_cases h2 : spanPl bo bl = true
    · rw [h, h2, sum_w h, sum_w h2]
      rw [pl_iff] at h h2
      simp only [Bool.not_true, Bool.false_eq_true, if_false, Bool.true_and, decide_eq_true_eq]
      have w1 : wrap64 (bo + bl - bo) = bo + bl - bo := by unfold wrap64; omega
      have w2 : wrap64 (bo + bl - ao) = bo + bl - ao := by unfold wrap64; omega
      have w3 : wrap64 (ao + al - bo) = ao + al - bo := by unfold wrap64; omega
      have w4 : wrap64 (ao + al - ao) = ao + al - ao := by unfold wrap64; omega
      rw [w1, w2, w3, w4]
      by_cases c1 : bo > ao
      · rw [if_pos c1, show max ao bo = bo by omega]
        by_cases c2 : bo + bl < ao + al
        · rw [if_pos c2, show min (ao + al) (bo + bl) = bo + bl by omega]
          by_cases c3 : bo ≥ bo + bl
          · rw [if_pos c3, if_neg (by omega)]
          · rw [if_neg c3, if_pos (by omega)]
        · rw [if_neg c2, show min (ao + al) (bo + bl) = ao + al by omega]
          by_cases c3 : bo ≥ ao + al
          · rw [if_pos c3, if_neg (by omega)]
          · rw [if_neg c3, if_pos (by omega)]
      · rw [if_neg c1, show max ao bo = ao by omega]
        by_cases c2 : bo + bl < ao + al
        · rw [if_pos c2, show min (ao + al) (bo + bl) = bo + bl by omega]
          by_cases c3 : ao ≥ bo + bl
          · rw [if_pos c3, if_neg (by omega)]
          · rw [if_neg c3, if_pos (by omega)]
        · rw [if_neg c2, show min (ao + al) (bo + bl) = ao + al by omega]
          by_cases c3 : ao ≥ ao + al
          · rw [if_pos c3, if_neg (by omega)]
          · rw [if_neg c3, if_pos (by omega)]
    · simp [h2]
  · simp [h]
theorem meetN_ok (ao al bo bl : Int) : (meetN ao al bo bl).2.2 = meetB ao al bo bl := by
  unfold meetN
  split <;> simp_all
theorem ref_overlap_p (ao al bo bl : Int) (k : Nat) (hk : 2 ≤ k) : twainref04_Overlap.f k ao al bo bl = some (meetB ao al bo bl) := by
  unfold twainref04_Overlap.f
  rw [ref_meet_p _ _ _ _ k hk, Option.bind_some, meetN_ok]
def wholeN (e : Int) : Int × Int := if 0 ≤ e ∧ e < 64 then (4 * e, 4) else (0, 0)
theorem ref_whole_p (e : Int) : twainref04_Whole.f e = some (wholeN e) := by
  unfold twainref04_Whole.f wholeN
  by_cases h : e < 0
  · rw [if_pos h, if_neg (by omega)]
  · rw [if_neg h]
    by_cases h2 : e > 63
    · rw [if_pos h2, if_neg (by omega)]
    · rw [if_neg h2, if_pos (by omega), show wrap64 (4 * e) = 4 * e by unfold wrap64; omega]
def extB (o l : Int) (j : Nat) : Bool := meetB o l (4 * (j : Int)) 4
theorem extB_iff (o l : Int) (j : Nat) (hj : j < 64) : extB o l j = true ↔ spanPl o l = true ∧ 0 < l ∧ o < 4 * (j : Int) + 4 ∧ 4 * (j : Int) < o + l := by
  have h : spanPl (4 * (j : Int)) 4 = true := by rw [pl_iff]; omega
  unfold extB meetB
  rw [h]
  simp only [Bool.and_true, Bool.and_eq_true, decide_eq_true_eq]
  constructor
  · rintro ⟨a, b⟩
    refine ⟨a, ?_⟩
    rw [pl_iff] at a
    omega
  · rintro ⟨a, b⟩
    refine ⟨a, ?_⟩
    rw [pl_iff] at a
    omega
def extN (o l : Int) : Nat := if spanPl o l && decide (l ≠ 0) then rowN (o / 4) (min ((o + l - 1) / 4) 63 - o / 4 + 1) else 0
theorem extN_lt (o l : Int) : extN o l < 2 ^ 64 := by
  unfold extN
  split
  · exact rowN_lt _ _
  · exact Nat.two_pow_pos 64
theorem extN_testBit (o l : Int) (j : Nat) : (extN o l).testBit j = (decide (j < 64) && extB o l j) := by
  by_cases hj : j < 64
  · rw [Bool.eq_iff_iff, Bool.and_eq_true, decide_eq_true_eq, extB_iff o l j hj]
    unfold extN
    by_cases h : spanPl o l = true
    · by_cases hl : l = 0
      · subst hl
        simp
      · rw [if_pos (by simp [h, hl]), rowN_testBit]
        have h' := (pl_iff o l).1 h
        simp only [h, inN, Bool.and_eq_true, decide_eq_true_eq, true_and]
        omega
    · simp [h]
  · have : (extN o l).testBit j = false := Nat.testBit_lt_two_pow (Nat.lt_of_lt_of_le (extN_lt o l) (Nat.pow_le_pow_right (by omega) (by omega)))
    simp [this, hj]
def extL (o l : Int) (m : Nat) : List Nat := (List.range m).filter (fun j => extB o l j)
theorem extL_succ (o l : Int) (m : Nat) : extL o l (m + 1) = extL o l m ++ (if extB o l m then [m] else []) := by
  unfold extL
  rw [List.range_succ, List.filter_append]
  congr 1
  by_cases h : extB o l m = true <;> simp [h]
theorem extL_len (o l : Int) (m : Nat) : (extL o l m).length ≤ m := by
  unfold extL
  exact Nat.le_trans (List.length_filter_le _ _) (by simp)
def intsL (l : List Nat) : List Int := l.map (fun n : Nat => (n : Int))
theorem ref_ext_loop (o l : Int) : ∀ (d i k : Nat), i + d = 64 → d + 140 < k → twainref04_Extents.l0 k (intsL (extL o l i)) (i : Int) o l = some ((ofN (intsL (extL o l 64)) : Nat) : Int) := by
  intro d
  induction d with
  | zero =>
    intro i k hi hk
    obtain ⟨k, rfl⟩ : ∃ j, k = j + 1 := ⟨k - 1, by omega⟩
    simp only [twainref04_Extents.l0]
    have hle := extL_len o l i
    rw [if_neg (by omega), ref_of_p _ (by simp [intsL]; omega) k (by simp [intsL]; omega), Option.bind_some, show i = 64 by omega]
  | succ d ih =>
    intro i k hi hk
    obtain ⟨k, rfl⟩ : ∃ j, k = j + 1 := ⟨k - 1, by omega⟩
    simp only [twainref04_Extents.l0]
    have hw : wholeN (i : Int) = (4 * (i : Int), 4) := by unfold wholeN; rw [if_pos (by omega)]
    rw [if_pos (by omega), ref_whole_p, Option.bind_some, hw, ref_overlap_p _ _ _ _ k (by omega), Option.bind_some, RequestBP.wrap_small _ (by omega) (by omega), show (i : Int) + 1 = ((i + 1 : Nat) : Int) by omega]
    have hl := extL_len o l i
    have := ih (i + 1) k (by omega) (by omega)
    rw [extL_succ] at this
    show (if extB o l i = true then _ else _) = _
    by_cases hb : extB o l i = true
    · rw [if_pos hb] at this ⊢
      rw [if_pos (by simp [intsL]; omega)]
      simpa [intsL] using this
    · rw [if_neg hb] at this ⊢
      simpa using this
theorem ref_extents_p (o l : Int) (k : Nat) (hk : 210 ≤ k) : twainref04_Extents.f k o l = some ((extN o l : Nat) : Int) := by
  have := ref_ext_loop o l 64 0 k (by omega) (by omega)
  refine Eq.trans this ?_
  congr 2
  apply Nat.eq_of_testBit_eq
  intro j
  unfold ofN
  rw [ofN_testBit, extN_testBit, Nat.zero_testBit, Bool.false_or]
  by_cases hj : j < 64
  · simp only [hj, decide_true, Bool.true_and]
    rw [Bool.eq_iff_iff, decide_eq_true_eq]
    unfold intsL extL
    rw [List.mem_map]
    constructor
    · rintro ⟨n, hn, e⟩
      obtain rfl : n = j := by omega
      simp at hn
      exact hn.2
    · intro h
      exact ⟨j, by simp [hj, h], rfl⟩
  · simp [hj]

end Go.Proofs.Ytajpnohhahffbaa.RequestSP
