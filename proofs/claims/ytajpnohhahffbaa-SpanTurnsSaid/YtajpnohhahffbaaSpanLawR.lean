/-
  The statements of layer 4 as plain facts.
-/
import Derived.Test.YtajpnohhahffbaaSpanPure
import Derived.Test.YtajpnohhahffbaaSpanLawH
import Derived.Test.YtajpnohhahffbaaSpanx8
namespace Go.Proofs.Ytajpnohhahffbaa.SpanLaws
open Go.RowKit Go.Proofs.Ytajpnohhahffbaa.Span Go.Proofs.Ytajpnohhahffbaa.SpanBP Go.Proofs.Ytajpnohhahffbaa.BitsPlain Go.Proofs.Ytajpnohhahffbaa.SpanPure Go.Proofs.YtajpnohhahffbaaW.PrintWords Go.Proofs.YtajpnohhahffbaaW.PrintMore
theorem meetB_turn (ao al bo bl : Int) : meetB ao al bo bl = meetB bo bl ao al := by
  unfold meetB
  rw [Bool.and_comm (spanPl ao al), Int.max_comm, Int.min_comm]
theorem meetN_turn (ao al bo bl : Int) : meetN ao al bo bl = meetN bo bl ao al := by
  unfold meetN
  rw [meetB_turn, Int.max_comm, Int.min_comm]
theorem SpanTurns (ao al bo bl at_ : Int) : twainlaw04_SpanTurns.f 300 ao al bo bl at_ = some true := by
  have j1 : ∀ b : Bool, (b = false → meetB ao al at_ 1 = true ∧ at_ ≤ 255 ∧ (meetN ao al at_ 1).1 = at_) → twainlaw04_SpanTurns.j1 299 b ao al at_ 1 = some true := by
    intro b hb
    simp only [twainlaw04_SpanTurns.j1]
    cases b with
    | true => rw [if_pos rfl, lives_p 298 (by omega)]; rfl
    | false =>
      obtain ⟨h1, h2, h3⟩ := hb rfl
      rw [if_neg (by simp), extents_p at_ 1 298 (by omega), Option.bind_some]
      have h1' := h1
      unfold meetB at h1'
      simp only [Bool.and_eq_true, decide_eq_true_eq] at h1'
      obtain ⟨⟨p1, p2⟩, p3⟩ := h1'
      have q1 := (pl_iff _ _).1 p1
      have q2 := (pl_iff _ _).1 p2
      have h3' : max ao at_ = at_ := by
        unfold meetN at h3
        rw [h1, if_pos rfl] at h3
        exact h3
      obtain ⟨n, rfl⟩ := Int.eq_ofNat_of_zero_le q2.1
      have hj : n / 4 < 64 := by omega
      have hb : (extN (n : Int) 1).testBit (n / 4) = true := by
        rw [extN_testBit]
        simp only [hj, decide_true, Bool.true_and]
        rw [extB_iff _ _ _ hj]
        exact ⟨p2, by omega⟩
      have hne : extN (n : Int) 1 ≠ 0 := by
        intro h
        rw [h, Nat.zero_testBit] at hb
        cases hb
      rw [if_neg (by omega), extents_p ao al 298 (by omega), Option.bind_some, Option.bind_some, Option.bind_some, u64_and_nat _ _ (extN_lt _ _) (extN_lt _ _)]
      have hand : extN ao al &&& extN (n : Int) 1 = extN (n : Int) 1 := by
        apply Nat.eq_of_testBit_eq
        intro j
        rw [Nat.testBit_and, extN_testBit, extN_testBit]
        by_cases hj : j < 64
        · simp only [hj, decide_true, Bool.true_and]
          rw [Bool.eq_iff_iff, Bool.and_eq_true, extB_iff _ _ _ hj, extB_iff _ _ _ hj]
          constructor
          · exact fun h => h.2
          · intro h
            exact ⟨⟨p1, by omega⟩, h⟩
        · simp [hj]
      rw [hand, if_pos rfl, lives_p 298 (by omega)]
      rfl
  have j0 : twainlaw04_SpanTurns.j0 300 at_ false ao al bo bl = some true := by
    simp only [twainlaw04_SpanTurns.j0]
    rw [if_neg (by simp), meet_p, Option.bind_some, meet_p, Option.bind_some, meetN_turn bo bl, if_neg (by simp)]
    by_cases ha : at_ > 255
    · rw [if_pos ha]
      exact j1 true (by simp)
    · rw [if_neg ha, holds_p, Option.bind_some]
      refine j1 _ (fun hb => ?_)
      simp only [Bool.not_eq_false', Bool.and_eq_true, beq_iff_eq] at hb
      exact ⟨hb.1, by omega, hb.2.1⟩
  unfold twainlaw04_SpanTurns.f
  rw [overlap_p, Option.bind_some, overlap_p, Option.bind_some, meetB_turn bo bl, if_neg (by simp), holds_p, Option.bind_some]
  by_cases h : (meetB ao al bo bl && ((meetN ao al bo bl).1 == bo && (meetN ao al bo bl).2.1 == bl)) = true
  · rw [if_pos h, Option.bind_some]
    have hm : meetB ao al bo bl = true := by
      rw [Bool.and_eq_true] at h
      exact h.1
    rw [hm]
    exact j0
  · rw [if_neg h]
    exact j0
end Go.Proofs.Ytajpnohhahffbaa.SpanLaws
