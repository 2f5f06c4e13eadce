/-
  Plain facts on what a plan has left.
-/
import Derived.Test.YteclkapffhjddaaPlanC
namespace Go.Proofs.Yteclkapffhjddaa.PlanP
open Go.RowKit Go.Proofs.Yteclkapffhjddaa Go.Proofs.Yteclkapffhjddaa.Bits Go.Proofs.Yteclkapffhjddaa.BitsPlain Go.Proofs.Yteclkapffhjddaa.BitsPure Go.Proofs.Yteclkapffhjddaa.PlanW Go.Proofs.YteclkapffhjddaaW.PrintWords Go.Proofs.YteclkapffhjddaaW.PrintMore
set_option linter.unusedVariables false
theorem u64_of {x : Int} (h : (Lit.int .u64 x).wf = true) : ∃ n : Nat, x = n ∧ n < 2 ^ 64 := by
  simp [Lit.wf, IntKind.min, IntKind.max, IntKind.signed, IntKind.bits] at h
  exact ⟨x.toNat, by omega, by omega⟩
theorem not_testBit (b i : Nat) (hb : b < 2 ^ 64) : (2 ^ 64 - 1 - b).testBit i = (decide (i < 64) && !b.testBit i) := by
  rw [show 2 ^ 64 - 1 - b = 2 ^ 64 - (b + 1) by omega]
  exact Nat.testBit_two_pow_sub_succ hb i
theorem high (x i : Nat) (hx : x < 2 ^ 64) (h : ¬ i < 64) : x.testBit i = false := Nat.testBit_lt_two_pow (Nat.lt_of_lt_of_le hx (Nat.pow_le_pow_right (by omega) (by omega)))
theorem withoutN_testBit (x : Nat) (n : Int) (i : Nat) (hx : x < 2 ^ 64) : (withoutN x n).testBit i = (x.testBit i && !(inN n && decide (n = (i : Int)))) := by
  rw [← withoutN_and x n hx, Nat.testBit_and, not_testBit _ _ (bitN_lt n), bitN_testBit]
  by_cases h : i < 64
  · simp [h]
  · rw [high x i hx h]; simp
theorem pop_one : ∀ k, k < 64 → pop 64 (2 ^ k) = 1 := by decide +kernel
theorem pop_bit (n : Int) (h : inN n = true) : pop 64 (bitN n) = 1 := by
  unfold bitN
  rw [if_pos h]
  unfold inN at h
  simp at h
  exact pop_one _ (by omega)
theorem pop_zero : pop 64 0 = 0 := by decide +kernel
theorem pop_without (x : Nat) (n : Int) (hx : x < 2 ^ 64) (h : hasN x n = true) : pop 64 (withoutN x n) + 1 = pop 64 x := by
  have hin : inN n = true := by unfold hasN at h; simp at h; exact h.1
  have hb := pop_bit n hin
  have h1 : withoutN x n ||| bitN n = x := by
    apply Nat.eq_of_testBit_eq
    intro i
    rw [Nat.testBit_or, withoutN_testBit x n i hx, bitN_testBit]
    by_cases hn : n = (i : Int)
    · subst hn
      unfold hasN at h
      simp at h
      simp [h.1, h.2]
    · simp [hn]
  have h2 : withoutN x n &&& bitN n = 0 := by
    apply Nat.eq_of_testBit_eq
    intro i
    rw [Nat.testBit_and, withoutN_testBit x n i hx, bitN_testBit, Nat.zero_testBit]
    cases (inN n && decide (n = (i : Int))) <;> simp
  have := pop_or_and 64 (withoutN x n) (bitN n)
  rw [h1, h2, pop_zero, hb] at this
  omega
/-- what is left behind a list of words, and how many of them counted -/
def Inv (m x n : Nat) (l : List Int) : Prop := x < 2 ^ 64 ∧ (∀ i : Nat, x.testBit i = (m.testBit i && !(decide (i < 64) && decide ((i : Int) ∈ l)))) ∧ pop 64 x + n = pop 64 m
theorem inv_nil (m : Nat) (hm : m < 2 ^ 64) : Inv m m 0 [] := ⟨hm, fun i => by simp, rfl⟩
theorem inv_step {m x n : Nat} {l : List Int} (e : Int) (h : Inv m x n l) : Inv m (withoutN x e) (n + if hasN x e then 1 else 0) (l ++ [e]) := by
  obtain ⟨hx, hb, hp⟩ := h
  refine ⟨withoutN_lt x e hx, ?_, ?_⟩
  · intro i
    rw [withoutN_testBit x e i hx, hb i]
    have hin : (inN e && decide (e = (i : Int))) = (decide (i < 64) && decide ((i : Int) = e)) := by
      unfold inN
      by_cases he : e = (i : Int)
      · subst he; simp; omega
      · have : ¬ (i : Int) = e := fun h => he h.symm
        simp [he, this]
    rw [hin]
    by_cases h1 : i < 64 <;> by_cases h2 : (i : Int) ∈ l <;> by_cases h3 : (i : Int) = e <;> simp [h1, h2, h3]
  · by_cases hh : hasN x e = true
    · have := pop_without x e hx hh
      rw [hh]; simp; omega
    · have hh' : hasN x e = false := by simpa using hh
      rw [withoutN_no x e hh', hh']; simpa using hp
theorem inv_end {m x n : Nat} {l : List Int} (hm : m < 2 ^ 64) (h : Inv m x n l) : x = m &&& (2 ^ 64 - 1 - ofN l) ∧ n = pop 64 (m &&& ofN l) := by
  obtain ⟨hx, hb, hp⟩ := h
  have ht : ∀ i, (ofN l).testBit i = (decide (i < 64) && decide ((i : Int) ∈ l)) := fun i => by
    unfold ofN; rw [ofN_testBit]; simp
  have hlt : ofN l < 2 ^ 64 := ofN_lt l 0 (by omega)
  have h1 : x = m &&& (2 ^ 64 - 1 - ofN l) := by
    apply Nat.eq_of_testBit_eq
    intro i
    rw [hb i, Nat.testBit_and, not_testBit _ _ hlt, ht i]
    by_cases h : i < 64
    · simp [h]
    · rw [high m i hm h]; simp
  refine ⟨h1, ?_⟩
  have h2 : x ||| (m &&& ofN l) = m := by
    apply Nat.eq_of_testBit_eq
    intro i
    rw [Nat.testBit_or, hb i, Nat.testBit_and, ht i]
    cases m.testBit i <;> cases (decide (i < 64) && decide ((i : Int) ∈ l)) <;> rfl
  have h3 : x &&& (m &&& ofN l) = 0 := by
    apply Nat.eq_of_testBit_eq
    intro i
    rw [Nat.testBit_and, hb i, Nat.testBit_and, ht i, Nat.zero_testBit]
    cases m.testBit i <;> cases (decide (i < 64) && decide ((i : Int) ∈ l)) <;> rfl
  have := pop_or_and 64 x (m &&& ofN l)
  rw [h2, h3, pop_zero] at this
  omega
end Go.Proofs.Yteclkapffhjddaa.PlanP
