/-
  Plain facts on sets of the numbers 0 to 63 as words: one, has, with, without, rows, lists.
-/
import Derived.Test.YtoobbolaoldacaaBitsPlain
namespace Go.Proofs.Ytoobbolaoldacaa.BitsPlain

def inN (n : Int) : Bool := decide (0 ≤ n) && decide (n < 64)
def bitN (n : Int) : Nat := if inN n then 2 ^ n.toNat else 0
def hasN (x : Nat) (n : Int) : Bool := inN n && x.testBit n.toNat
def withN (x : Nat) (n : Int) : Nat := x ||| bitN n
def withoutN (x : Nat) (n : Int) : Nat := if hasN x n then x - bitN n else x
def ofN (l : List Int) : Nat := l.foldl withN 0

theorem bitN_lt (n : Int) : bitN n < 2 ^ 64 := by
  unfold bitN
  split
  · rename_i h
    simp [inN] at h
    exact Nat.pow_lt_pow_right (by omega) (by omega)
  · exact Nat.two_pow_pos 64
theorem withN_lt (x : Nat) (n : Int) (h : x < 2 ^ 64) : withN x n < 2 ^ 64 := Nat.or_lt_two_pow h (bitN_lt n)
theorem bitN_testBit (n : Int) (i : Nat) : (bitN n).testBit i = (inN n && decide (n = (i : Int))) := by
  unfold bitN
  by_cases h : inN n = true
  · rw [if_pos h, Nat.testBit_two_pow, h]
    have h' := h
    simp [inN] at h'
    rw [Bool.true_and]
    congr 1
    simp only [eq_iff_iff]
    omega
  · have h' : inN n = false := by simpa using h
    rw [if_neg h, h']
    simp
theorem withN_testBit (x : Nat) (n : Int) (i : Nat) : (withN x n).testBit i = (x.testBit i || (inN n && decide (n = (i : Int)))) := by
  unfold withN; rw [Nat.testBit_or, bitN_testBit]
theorem add_bit (x n : Nat) (h : x.testBit n = false) : x + 2 ^ n = x ||| 2 ^ n := by
  have hm : x / 2 ^ n % 2 = 0 := by
    rw [Nat.testBit_eq_decide_div_mod_eq] at h
    simp at h
    omega
  obtain ⟨q, hq⟩ : ∃ q, x / 2 ^ n = 2 * q := ⟨x / 2 ^ n / 2, by omega⟩
  have hr : x % 2 ^ n < 2 ^ n := Nat.mod_lt _ (Nat.two_pow_pos n)
  have hx : x = 2 ^ n * (2 * q) + x % 2 ^ n := by rw [← hq, Nat.div_add_mod]
  generalize x % 2 ^ n = r at hr hx
  subst hx
  apply Nat.eq_of_testBit_eq
  intro i
  rw [show 2 ^ n * (2 * q) + r + 2 ^ n = 2 ^ n * (2 * q + 1) + r by rw [Nat.mul_add, Nat.mul_one]; omega, Nat.testBit_or, Nat.testBit_two_pow_mul_add _ hr, Nat.testBit_two_pow_mul_add _ hr, Nat.testBit_two_pow]
  by_cases hi : i < n
  · simp [hi, show ¬ n = i by omega]
  · simp only [hi, ite_false]
    cases hj : i - n with
    | zero =>
      have : n = i := by omega
      simp [Nat.testBit_zero, this]
    | succ j =>
      have : ¬ n = i := by omega
      simp [Nat.testBit_succ, this, show (2 * q + 1) / 2 = q by omega]
theorem withN_add (x : Nat) (n : Int) (h : hasN x n = false) : withN x n = x + bitN n := by
  unfold withN bitN
  by_cases hi : inN n = true
  · simp only [hi, ite_true]
    rw [add_bit x n.toNat (by simpa [hasN, hi] using h)]
  · simp only [hi]; simp
theorem withN_has (x : Nat) (n : Int) (h : hasN x n = true) : withN x n = x := by
  apply Nat.eq_of_testBit_eq
  intro i
  rw [withN_testBit]
  simp [hasN] at h
  by_cases hn : n = (i : Int)
  · subst hn
    simp at h
    simp [h.2]
  · simp [hn]
theorem and_bit (x n : Nat) : (x &&& 2 ^ n ≠ 0) ↔ x.testBit n = true := by
  constructor
  · intro h
    cases hb : x.testBit n
    · exfalso
      apply h
      apply Nat.eq_of_testBit_eq
      intro i
      rw [Nat.testBit_and, Nat.testBit_two_pow, Nat.zero_testBit]
      by_cases hi : n = i
      · subst hi; simp [hb]
      · simp [hi]
    · rfl
  · intro h e
    have h2 : (x &&& 2 ^ n).testBit n = true := by rw [Nat.testBit_and, h, Nat.testBit_two_pow]; simp
    rw [e, Nat.zero_testBit] at h2
    cases h2
theorem has_and (x : Nat) (n : Int) : decide (x &&& bitN n ≠ 0) = hasN x n := by
  unfold bitN hasN
  by_cases hi : inN n = true
  · simp only [hi, ite_true, Bool.true_and]
    rw [Bool.eq_iff_iff, decide_eq_true_iff]
    exact and_bit _ _
  · simp [hi]
theorem sub_bit (x n : Nat) (hx : x < 2 ^ 64) (hn : n < 64) (h : x.testBit n = true) : x &&& (2 ^ 64 - 1 - 2 ^ n) = x - 2 ^ n := by
  obtain ⟨y, hy, hyn⟩ : ∃ y, x = y ||| 2 ^ n ∧ y.testBit n = false := by
    refine ⟨x &&& (2 ^ 64 - (2 ^ n + 1)), ?_, ?_⟩
    · apply Nat.eq_of_testBit_eq
      intro i
      have hp : 2 ^ n < 2 ^ 64 := Nat.pow_lt_pow_right (by omega) hn
      rw [Nat.testBit_or, Nat.testBit_and, Nat.testBit_two_pow_sub_succ hp, Nat.testBit_two_pow]
      by_cases hi : n = i
      · subst hi; simp [h]
      · by_cases h64 : i < 64
        · simp [hi, h64]
        · have : x.testBit i = false := Nat.testBit_lt_two_pow (Nat.lt_of_lt_of_le hx (Nat.pow_le_pow_right (by omega) (by omega)))
          simp [this, hi]
    · have hp : 2 ^ n < 2 ^ 64 := Nat.pow_lt_pow_right (by omega) hn
      rw [Nat.testBit_and, Nat.testBit_two_pow_sub_succ hp, Nat.testBit_two_pow]
      simp
  have hp : 2 ^ n < 2 ^ 64 := Nat.pow_lt_pow_right (by omega) hn
  rw [show x - 2 ^ n = y by rw [hy, ← add_bit y n hyn]; omega, show 2 ^ 64 - 1 - 2 ^ n = 2 ^ 64 - (2 ^ n + 1) by omega]
  apply Nat.eq_of_testBit_eq
  intro i
  rw [Nat.testBit_and, Nat.testBit_two_pow_sub_succ hp, Nat.testBit_two_pow, hy, Nat.testBit_or, Nat.testBit_two_pow]
  by_cases hi : n = i
  · subst hi; simp [hyn]
  · by_cases h64 : i < 64
    · simp [hi, h64]
    · have : x.testBit i = false := Nat.testBit_lt_two_pow (Nat.lt_of_lt_of_le hx (Nat.pow_le_pow_right (by omega) (by omega)))
      rw [hy, Nat.testBit_or, Nat.testBit_two_pow] at this
      simp [hi] at this
      simp [hi, this]
theorem withoutN_and (x : Nat) (n : Int) (hx : x < 2 ^ 64) : x &&& (2 ^ 64 - 1 - bitN n) = withoutN x n := by
  unfold withoutN bitN
  by_cases hi : inN n = true
  · have hi' := hi
    simp [inN] at hi'
    simp only [hi, ite_true]
    by_cases hh : hasN x n = true
    · rw [if_pos hh]
      exact sub_bit x n.toNat hx (by omega) (by simpa [hasN, hi] using hh)
    · have hh' : x.testBit n.toNat = false := by simpa [hasN, hi] using hh
      rw [if_neg hh]
      have hp : 2 ^ n.toNat < 2 ^ 64 := Nat.pow_lt_pow_right (by omega) (by omega)
      rw [show 2 ^ 64 - 1 - 2 ^ n.toNat = 2 ^ 64 - (2 ^ n.toNat + 1) by omega]
      apply Nat.eq_of_testBit_eq
      intro i
      rw [Nat.testBit_and, Nat.testBit_two_pow_sub_succ hp, Nat.testBit_two_pow]
      by_cases he : n.toNat = i
      · rw [← he]; simp [hh']
      · by_cases h64 : i < 64
        · simp [he, h64]
        · have : x.testBit i = false := Nat.testBit_lt_two_pow (Nat.lt_of_lt_of_le hx (Nat.pow_le_pow_right (by omega) (by omega)))
          simp [this]
  · have hh : hasN x n = false := by simp [hasN, hi]
    simp only [hi, hh]
    rw [if_neg (by simp), if_neg (by simp), Nat.sub_zero, Nat.and_two_pow_sub_one_eq_mod, Nat.mod_eq_of_lt hx]
/-- n of them from one on -/
def rowN (from_ n : Int) : Nat := if inN from_ && decide (1 ≤ n) then ((if n < 64 then 2 ^ n.toNat - 1 else 2 ^ 64 - 1) * 2 ^ from_.toNat) % 2 ^ 64 else 0
theorem rowN_lt (f n : Int) : rowN f n < 2 ^ 64 := by
  unfold rowN
  split
  · exact Nat.mod_lt _ (Nat.two_pow_pos 64)
  · exact Nat.two_pow_pos 64
theorem rowN_testBit (f n : Int) (i : Nat) : (rowN f n).testBit i = (inN f && decide (i < 64) && decide (f ≤ i) && decide ((i : Int) - f < n)) := by
  unfold rowN
  by_cases h : inN f = true
  · have h' := h
    simp [inN] at h'
    by_cases h1 : 1 ≤ n
    · rw [if_pos (by simp [h, h1]), Nat.testBit_mod_two_pow, Nat.testBit_mul_two_pow, h]
      by_cases hn : n < 64
      · rw [if_pos hn, Nat.testBit_two_pow_sub_one]
        by_cases hi : f.toNat ≤ i
        · simp only [hi, decide_true, Bool.true_and, show f ≤ i by omega, Bool.and_true]
          congr 1
          simp only [decide_eq_decide]
          omega
        · simp [hi, show ¬ f ≤ i by omega]
      · rw [if_neg hn, Nat.testBit_two_pow_sub_one]
        by_cases h64 : i < 64
        · by_cases hi : f.toNat ≤ i
          · simp [h64, hi, show i - f.toNat < 64 by omega, show f ≤ i by omega, show (i : Int) - f < n by omega]
          · simp [hi, show ¬ f ≤ i by omega]
        · simp [h64]
    · rw [if_neg (by simp [h1])]
      simp
      omega
  · rw [if_neg (by simp [h])]
    simp [h]
theorem list_mem (x i : Nat) : i ∈ list x ↔ i < 64 ∧ x.testBit i = true := by simp [list]
theorem ofN_testBit (l : List Int) : ∀ (x i : Nat), (l.foldl withN x).testBit i = (x.testBit i || (decide (i < 64) && decide ((i : Int) ∈ l))) := by
  induction l with
  | nil => intro x i; simp
  | cons n l ih =>
    intro x i
    rw [List.foldl_cons, ih, withN_testBit]
    by_cases h : n = (i : Int)
    · subst h
      by_cases h64 : i < 64
      · have : inN (i : Int) = true := by simp [inN]; omega
        simp [h64, this]
      · have : inN (i : Int) = false := by simp [inN]; omega
        simp [h64, this]
    · have : ¬ (i : Int) = n := fun e => h e.symm
      simp [h, this]
theorem ofN_lt (l : List Int) : ∀ x, x < 2 ^ 64 → l.foldl withN x < 2 ^ 64 := by
  induction l with
  | nil => intro x h; exact h
  | cons n l ih => intro x h; exact ih _ (withN_lt x n h)
theorem ofN_list (x : Nat) (hx : x < 2 ^ 64) : ofN ((list x).map (fun n : Nat => (n : Int))) = x := by
  apply Nat.eq_of_testBit_eq
  intro i
  unfold ofN
  rw [ofN_testBit]
  by_cases h64 : i < 64
  · have hm : ((i : Int) ∈ (list x).map (fun n : Nat => (n : Int))) ↔ x.testBit i = true := by
      rw [List.mem_map]
      constructor
      · rintro ⟨k, hk, e⟩
        obtain rfl : k = i := by omega
        exact ((list_mem x k).1 hk).2
      · intro hb
        exact ⟨i, (list_mem x i).2 ⟨h64, hb⟩, rfl⟩
    rw [Nat.zero_testBit, Bool.false_or, Bool.eq_iff_iff]
    simp only [h64, decide_true, Bool.true_and, decide_eq_true_iff]
    exact hm
  · have : x.testBit i = false := Nat.testBit_lt_two_pow (Nat.lt_of_lt_of_le hx (Nat.pow_le_pow_right (by omega) (by omega)))
    simp [h64, this]
theorem pop_or_and (n a b : Nat) : pop n (a ||| b) + pop n (a &&& b) = pop n a + pop n b := by
  induction n with
  | zero => rfl
  | succ n ih =>
    simp only [pop, Nat.testBit_or, Nat.testBit_and]
    cases a.testBit n <;> cases b.testBit n <;> simp <;> omega
/-- the first m numbers' part of a list -/
def listTo (x m : Nat) : List Nat := (List.range m).filter (fun i => x.testBit i)
theorem listTo_succ (x m : Nat) : listTo x (m + 1) = listTo x m ++ (if x.testBit m then [m] else []) := by
  unfold listTo
  rw [List.range_succ, List.filter_append]
  congr 1
  by_cases h : x.testBit m <;> simp [h]
theorem listTo_all (x : Nat) : listTo x 64 = list x := rfl
end Go.Proofs.Ytoobbolaoldacaa.BitsPlain
