/-
  Plain facts: what the functions come to (Later).
-/
import Derived.Test.YtoobbolaoldacaaLaterx2
import Derived.Test.YtoobbolaoldacaaLaterx3
import Derived.Test.YtoobbolaoldacaaSetPlain
import Derived.Laws.BitsAllLaws
namespace Go.Proofs.Ytoobbolaoldacaa.LaterSP
open Go.RowKit Go.Proofs.Ytoobbolaoldacaa.Later Go.Proofs.Ytoobbolaoldacaa.BitsPlain Go.Proofs.YtoobbolaoldacaaW.PrintWords Go.Proofs.YtoobbolaoldacaaW.PrintMore
theorem pl_iff (o l : Int) : spanPl o l = true ↔ 0 ≤ o ∧ o ≤ 1073741824 ∧ 0 ≤ l ∧ l ≤ 1073741824 := by
  simp [spanPl, and_assoc]
theorem plain_p (o l : Int) : span_Plain.f o l = some (spanPl o l) := spanPl_f o l
theorem ref_plain_p (o l : Int) : twainref04_Plain.f o l = some (spanPl o l) := by
  unfold twainref04_Plain.f spanPl
  by_cases h1 : 0 ≤ o <;> by_cases h2 : o ≤ 1073741824 <;> by_cases h3 : 0 ≤ l <;> simp [h1, h2, h3]
theorem sum_w {o l : Int} (h : spanPl o l = true) : wrap64 (o + l) = o + l := by
  rw [pl_iff] at h
  unfold wrap64
  omega
def meetB (ao al bo bl : Int) : Bool := spanPl ao al && spanPl bo bl && decide (max ao bo < min (ao + al) (bo + bl))
def meetN (ao al bo bl : Int) : Int × Int × Bool := if meetB ao al bo bl then (max ao bo, min (ao + al) (bo + bl) - max ao bo, true) else (0, 0, false)
theorem meet_p (ao al bo bl : Int) : span_Meet.f ao al bo bl = some (meetN ao al bo bl) := by
  unfold span_Meet.f meetN meetB
  by_cases h : (spanPl ao al && spanPl bo bl && decide (max ao bo < min (ao + al) (bo + bl))) = true
  · rw [if_pos h, if_pos h]
  · rw [if_neg h, if_neg h]
theorem ref_meet_p (ao al bo bl : Int) (k : Nat) (hk : 2 ≤ k) : twainref04_Meet.f k ao al bo bl = some (meetN ao al bo bl) := by
  obtain ⟨k, rfl⟩ : ∃ j, k = j + 2 := ⟨k - 2, by omega⟩
  unfold twainref04_Meet.f meetN meetB
  rw [ref_plain_p, Option.bind_some]
  simp only [twainref04_Meet.j0, twainref04_Meet.j1]
  by_cases h : spanPl ao al = true
  · rw [if_pos h, ref_plain_p, Option.bind_some]
    by_cases h2 : spanPl bo bl = true
    · rw [h, h2, sum_w h, sum_w h2]
      rw [pl_iff] at h h2
      simp only [Bool.not_true, Bool.false_eq_true, if_false, Bool.true_and, decide_eq_true_eq]
      have w1 : wrap64 (bo + bl - bo) = bo + bl - bo := by unfold wrap64; omega
      have w2 : wrap64 (bo + bl - ao) = bo + bl - ao := by unfold wrap64; omega
      have w3 : wrap64 (ao + al - bo) = ao + al - bo := by unfold wrap64; omega
      have w4 : wrap64 (ao + al - ao) = ao + al - ao := by unfold wrap64; omega
      rw [w1, w2, w3, w4]
      by_cases c1 : bo > ao
      · rw [if_pos c1, show max ao bo = bo by omega]
        by_cases c2 : bo + bl < ao + al
        · rw [if_pos c2, show min (ao + al) (bo + bl) = bo + bl by omega]
          by_cases c3 : bo ≥ bo + bl
          · rw [if_pos c3, if_neg (by omega)]
          · rw [if_neg c3, if_pos (by omega)]
        · rw [if_neg c2, show min (ao + al) (bo + bl) = ao + al by omega]
          by_cases c3 : bo ≥ ao + al
          · rw [if_pos c3, if_neg (by omega)]
          · rw [if_neg c3, if_pos (by omega)]
      · rw [if_neg c1, show max ao bo = ao by omega]
        by_cases c2 : bo + bl < ao + al
        · rw [if_pos c2, show min (ao + al) (bo + bl) = bo + bl by omega]
          by_cases c3 : ao ≥ bo + bl
          · rw [if_pos c3, if_neg (by omega)]
          · rw [if_neg c3, if_pos (by omega)]
        · rw [if_neg c2, show min (ao + al) (bo + bl) = ao + al by omega]
          by_cases c3 : ao ≥ ao + al
          · rw [if_pos c3, if_neg (by omega)]
          · rw [if_neg c3, if_pos (by omega)]
    · simp [h2]
  · simp [h]
theorem meetN_ok (ao al bo bl : Int) : (meetN ao al bo bl).2.2 = meetB ao al bo bl := by
  unfold meetN
  split <;> simp_all
theorem ref_overlap_p (ao al bo bl : Int) (k : Nat) (hk : 2 ≤ k) : twainref04_Overlap.f k ao al bo bl = some (meetB ao al bo bl) := by
  unfold twainref04_Overlap.f
  rw [ref_meet_p _ _ _ _ k hk, Option.bind_some, meetN_ok]
theorem holds_p (ao al bo bl : Int) : span_Holds.f ao al bo bl = some (meetB ao al bo bl && ((meetN ao al bo bl).1 == bo && (meetN ao al bo bl).2.1 == bl)) := by
  unfold span_Holds.f
  rw [meet_p, Option.bind_some, meetN_ok]
  cases meetB ao al bo bl <;> simp
theorem ref_holds_p (ao al bo bl : Int) (k : Nat) (hk : 2 ≤ k) : twainref04_Holds.f k ao al bo bl = some (meetB ao al bo bl && ((meetN ao al bo bl).1 == bo && (meetN ao al bo bl).2.1 == bl)) := by
  unfold twainref04_Holds.f
  rw [ref_meet_p _ _ _ _ k hk, Option.bind_some, meetN_ok]
  cases meetB ao al bo bl <;> simp
theorem overlap_p (ao al bo bl : Int) : span_Overlap.f ao al bo bl = some (meetB ao al bo bl) := by
  unfold span_Overlap.f
  rw [meet_p, Option.bind_some, meetN_ok]
theorem meetB_turn (ao al bo bl : Int) : meetB ao al bo bl = meetB bo bl ao al := by
  unfold meetB
  rw [Bool.and_comm (spanPl ao al), Int.max_comm, Int.min_comm]

end Go.Proofs.Ytoobbolaoldacaa.LaterSP
