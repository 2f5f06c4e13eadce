/-
  Plain facts on sets of 64 bits: how many, the least, the list.
-/
namespace Go.Proofs.Ytoobbolaoldacaa.BitsPlain
/-- population count by recursion on the number of bits -/
def pop : Nat → Nat → Nat
  | 0, _ => 0
  | n + 1, x => pop n x + (if x.testBit n then 1 else 0)
theorem pop_list (n x : Nat) : pop n x = ((List.range n).filter (fun i => x.testBit i)).length := by
  induction n with
  | zero => rfl
  | succ n ih =>
    rw [List.range_succ, List.filter_append, List.length_append, pop, ih]
    by_cases h : x.testBit n <;> simp [h]
theorem pop_congr (n x y : Nat) (h : ∀ i, i < n → x.testBit i = y.testBit i) : pop n x = pop n y := by
  induction n with
  | zero => rfl
  | succ n ih => rw [pop, pop, ih (fun i hi => h i (by omega)), h n (by omega)]
theorem pop_split (m n x : Nat) : pop (m + n) x = pop m x + pop n (x / 2 ^ m) := by
  induction n with
  | zero => rfl
  | succ n ih => rw [show m + (n + 1) = (m + n) + 1 by omega, pop, ih, pop, Nat.testBit_div_two_pow, Nat.add_comm n m]; omega
theorem pop_le (n x : Nat) : pop n x ≤ n := by
  induction n with
  | zero => simp [pop]
  | succ n ih => rw [pop]; split <;> omega

/-- one stage: pairs of fields of width s -/
def stage (m s x : Nat) : Nat := (x &&& m) + ((x / 2 ^ s) &&& m)
/-- a stage works on each half by itself: n the half's width, its mask's top s bits clear -/
theorem and_halves (n lo hi m : Nat) (hlo : lo < 2 ^ n) (hm : m < 2 ^ n) : (lo + 2 ^ n * hi) &&& (m + 2 ^ n * m) = (lo &&& m) + 2 ^ n * (hi &&& m) := by
  apply Nat.eq_of_testBit_eq
  intro i
  have a : (lo &&& m) < 2 ^ n := Nat.and_lt_two_pow _ hm
  rw [Nat.add_comm lo, Nat.add_comm m, Nat.add_comm (lo &&& m), Nat.testBit_and, Nat.testBit_two_pow_mul_add _ hlo, Nat.testBit_two_pow_mul_add _ hm, Nat.testBit_two_pow_mul_add _ a]
  by_cases h : i < n <;> simp [h]
end Go.Proofs.Ytoobbolaoldacaa.BitsPlain
namespace Go.Proofs.Ytoobbolaoldacaa.BitsPlain
theorem stage_halves (n s lo hi m : Nat) (hlo : lo < 2 ^ n) (hs : s ≤ n) (hm : m < 2 ^ (n - s)) :
    stage (m + 2 ^ n * m) s (lo + 2 ^ n * hi) = stage m s lo + 2 ^ n * stage m s hi := by
  have hmn : m < 2 ^ n := Nat.lt_of_lt_of_le hm (Nat.pow_le_pow_right (by omega) (by omega))
  have e : ((lo + 2 ^ n * hi) / 2 ^ s) &&& (m + 2 ^ n * m) = ((lo / 2 ^ s) &&& m) + 2 ^ n * ((hi / 2 ^ s) &&& m) := by
    apply Nat.eq_of_testBit_eq
    intro i
    have a : ((lo / 2 ^ s) &&& m) < 2 ^ n := Nat.and_lt_two_pow _ hmn
    rw [Nat.add_comm lo, Nat.add_comm m, Nat.add_comm ((lo / 2 ^ s) &&& m), Nat.testBit_and, Nat.testBit_div_two_pow, Nat.testBit_two_pow_mul_add _ hlo, Nat.testBit_two_pow_mul_add _ hmn, Nat.testBit_two_pow_mul_add _ a]
    by_cases h : i < n
    · by_cases h2 : i + s < n
      · simp [h, h2, Nat.testBit_div_two_pow]
      · have : m.testBit i = false := Nat.testBit_lt_two_pow (Nat.lt_of_lt_of_le hm (Nat.pow_le_pow_right (by omega) (by omega)))
        simp [h, h2, this]
    · have h2 : ¬ i + s < n := by omega
      simp [h, h2, Nat.testBit_div_two_pow, show i + s - n = i - n + s by omega]
  unfold stage
  rw [and_halves n lo hi m hlo hmn, e, Nat.mul_add]
  omega
theorem stage_le (m s x : Nat) : stage m s x ≤ m + m := by
  unfold stage
  have := Nat.and_le_right (n := x) (m := m)
  have := Nat.and_le_right (n := x / 2 ^ s) (m := m)
  omega
theorem halves (n x : Nat) : x = x % 2 ^ n + 2 ^ n * (x / 2 ^ n) := (Nat.mod_add_div _ _).symm

def c8 (x : Nat) : Nat := stage 0x0f 4 (stage 0x33 2 (stage 0x55 1 x))
def c16 (x : Nat) : Nat := stage 0xff 8 (stage 0x0f0f 4 (stage 0x3333 2 (stage 0x5555 1 x)))
def c32 (x : Nat) : Nat := stage 0xffff 16 (stage 0xff00ff 8 (stage 0x0f0f0f0f 4 (stage 0x33333333 2 (stage 0x55555555 1 x))))
def c64 (x : Nat) : Nat := stage 0xffffffff 32 (stage 0xffff0000ffff 16 (stage 0xff00ff00ff00ff 8 (stage 0x0f0f0f0f0f0f0f0f 4 (stage 0x3333333333333333 2 (stage 0x5555555555555555 1 x)))))

set_option maxRecDepth 20000 in
theorem c8_eq : ∀ x, x < 256 → c8 x = pop 8 x := by decide +kernel
theorem low_and (n a : Nat) (h : a < 2 ^ n) : a &&& (2 ^ n - 1) = a := by
  rw [Nat.and_two_pow_sub_one_eq_mod]; exact Nat.mod_eq_of_lt h
theorem last (n a b : Nat) (ha : a < 2 ^ n) (hb : b < 2 ^ n) : stage (2 ^ n - 1) n (a + 2 ^ n * b) = a + b := by
  unfold stage
  rw [Nat.and_two_pow_sub_one_eq_mod, Nat.and_two_pow_sub_one_eq_mod, Nat.add_mul_mod_self_left, Nat.mod_eq_of_lt ha, Nat.add_mul_div_left _ _ (Nat.two_pow_pos n), Nat.div_eq_of_lt ha, Nat.zero_add, Nat.mod_eq_of_lt hb]
theorem c16_eq (x : Nat) (h : x < 2 ^ 16) : c16 x = pop 16 x := by
  have hl : x % 2 ^ 8 < 2 ^ 8 := Nat.mod_lt _ (by decide)
  have hh : x / 2 ^ 8 < 2 ^ 8 := by omega
  rw [show (16 : Nat) = 8 + 8 from rfl, pop_split, show pop 8 x = pop 8 (x % 2 ^ 8) from pop_congr _ _ _ (fun i hi => by rw [Nat.testBit_mod_two_pow]; simp [hi])]
  rw [← c8_eq _ hl, ← c8_eq _ hh]
  unfold c16
  conv => lhs; rw [halves 8 x]
  have s1 := fun lo hi h => stage_halves 8 1 lo hi 0x55 h (by decide) (by decide)
  have s2 := fun lo hi h => stage_halves 8 2 lo hi 0x33 h (by decide) (by decide)
  have s4 := fun lo hi h => stage_halves 8 4 lo hi 0x0f h (by decide) (by decide)
  have b1 := fun x => stage_le 0x55 1 x
  have b2 := fun x => stage_le 0x33 2 x
  have b4 := fun x => stage_le 0x0f 4 x
  rw [show (0x5555:Nat) = 0x55 + 2 ^ 8 * 0x55 from rfl, show (0x3333:Nat) = 0x33 + 2 ^ 8 * 0x33 from rfl, show (0x0f0f:Nat) = 0x0f + 2 ^ 8 * 0x0f from rfl, show (0xff:Nat) = 2 ^ 8 - 1 from rfl]
  rw [s1 _ _ hl, s2 _ _ (by have := b1 (x % 2 ^ 8); omega), s4 _ _ (by have := b2 (stage 0x55 1 (x % 2 ^ 8)); omega), last 8 _ _ (by have := b4 (stage 0x33 2 (stage 0x55 1 (x % 2 ^ 8))); omega) (by have := b4 (stage 0x33 2 (stage 0x55 1 (x / 2 ^ 8))); omega)]
  rfl
theorem c32_eq (x : Nat) (h : x < 2 ^ 32) : c32 x = pop 32 x := by
  have hl : x % 2 ^ 16 < 2 ^ 16 := Nat.mod_lt _ (by decide)
  have hh : x / 2 ^ 16 < 2 ^ 16 := by omega
  rw [show (32 : Nat) = 16 + 16 from rfl, pop_split, show pop 16 x = pop 16 (x % 2 ^ 16) from pop_congr _ _ _ (fun i hi => by rw [Nat.testBit_mod_two_pow]; simp [hi])]
  rw [← c16_eq _ hl, ← c16_eq _ hh]
  unfold c32
  conv => lhs; rw [halves 16 x]
  have s1 := fun lo hi h => stage_halves 16 1 lo hi 0x5555 h (by decide) (by decide)
  have s2 := fun lo hi h => stage_halves 16 2 lo hi 0x3333 h (by decide) (by decide)
  have s4 := fun lo hi h => stage_halves 16 4 lo hi 0x0f0f h (by decide) (by decide)
  have s8 := fun lo hi h => stage_halves 16 8 lo hi 0xff h (by decide) (by decide)
  have b1 := fun x => stage_le 0x5555 1 x
  have b2 := fun x => stage_le 0x3333 2 x
  have b4 := fun x => stage_le 0x0f0f 4 x
  have b8 := fun x => stage_le 0xff 8 x
  rw [show (0x55555555:Nat) = 0x5555 + 2 ^ 16 * 0x5555 from rfl, show (0x33333333:Nat) = 0x3333 + 2 ^ 16 * 0x3333 from rfl, show (0x0f0f0f0f:Nat) = 0x0f0f + 2 ^ 16 * 0x0f0f from rfl, show (0xff00ff:Nat) = 0xff + 2 ^ 16 * 0xff from rfl, show (0xffff:Nat) = 2 ^ 16 - 1 from rfl]
  rw [s1 _ _ hl, s2 _ _ (by have := b1 (x % 2 ^ 16); omega), s4 _ _ (by have := b2 (stage 0x5555 1 (x % 2 ^ 16)); omega), s8 _ _ (by have := b4 (stage 0x3333 2 (stage 0x5555 1 (x % 2 ^ 16))); omega),
    last 16 _ _ (by have := b8 (stage 0x0f0f 4 (stage 0x3333 2 (stage 0x5555 1 (x % 2 ^ 16)))); omega) (by have := b8 (stage 0x0f0f 4 (stage 0x3333 2 (stage 0x5555 1 (x / 2 ^ 16)))); omega)]
  rfl
theorem c64_eq (x : Nat) (h : x < 2 ^ 64) : c64 x = pop 64 x := by
  have hl : x % 2 ^ 32 < 2 ^ 32 := Nat.mod_lt _ (by decide)
  have hh : x / 2 ^ 32 < 2 ^ 32 := by omega
  rw [show (64 : Nat) = 32 + 32 from rfl, pop_split, show pop 32 x = pop 32 (x % 2 ^ 32) from pop_congr _ _ _ (fun i hi => by rw [Nat.testBit_mod_two_pow]; simp [hi])]
  rw [← c32_eq _ hl, ← c32_eq _ hh]
  unfold c64
  conv => lhs; rw [halves 32 x]
  have s1 := fun lo hi h => stage_halves 32 1 lo hi 0x55555555 h (by decide) (by decide)
  have s2 := fun lo hi h => stage_halves 32 2 lo hi 0x33333333 h (by decide) (by decide)
  have s4 := fun lo hi h => stage_halves 32 4 lo hi 0x0f0f0f0f h (by decide) (by decide)
  have s8 := fun lo hi h => stage_halves 32 8 lo hi 0xff00ff h (by decide) (by decide)
  have s16 := fun lo hi h => stage_halves 32 16 lo hi 0xffff h (by decide) (by decide)
  have b1 := fun x => stage_le 0x55555555 1 x
  have b2 := fun x => stage_le 0x33333333 2 x
  have b4 := fun x => stage_le 0x0f0f0f0f 4 x
  have b8 := fun x => stage_le 0xff00ff 8 x
  have b16 := fun x => stage_le 0xffff 16 x
  rw [show (0x5555555555555555:Nat) = 0x55555555 + 2 ^ 32 * 0x55555555 from rfl, show (0x3333333333333333:Nat) = 0x33333333 + 2 ^ 32 * 0x33333333 from rfl, show (0x0f0f0f0f0f0f0f0f:Nat) = 0x0f0f0f0f + 2 ^ 32 * 0x0f0f0f0f from rfl, show (0xff00ff00ff00ff:Nat) = 0xff00ff + 2 ^ 32 * 0xff00ff from rfl, show (0xffff0000ffff:Nat) = 0xffff + 2 ^ 32 * 0xffff from rfl, show (0xffffffff:Nat) = 2 ^ 32 - 1 from rfl]
  rw [s1 _ _ hl, s2 _ _ (by have := b1 (x % 2 ^ 32); omega), s4 _ _ (by have := b2 (stage 0x55555555 1 (x % 2 ^ 32)); omega), s8 _ _ (by have := b4 (stage 0x33333333 2 (stage 0x55555555 1 (x % 2 ^ 32))); omega),
    s16 _ _ (by have := b8 (stage 0x0f0f0f0f 4 (stage 0x33333333 2 (stage 0x55555555 1 (x % 2 ^ 32)))); omega),
    last 32 _ _ (by have := b16 (stage 0xff00ff 8 (stage 0x0f0f0f0f 4 (stage 0x33333333 2 (stage 0x55555555 1 (x % 2 ^ 32))))); omega) (by have := b16 (stage 0xff00ff 8 (stage 0x0f0f0f0f 4 (stage 0x33333333 2 (stage 0x55555555 1 (x / 2 ^ 32))))); omega)]
  rfl
end Go.Proofs.Ytoobbolaoldacaa.BitsPlain
namespace Go.Proofs.Ytoobbolaoldacaa.BitsPlain
theorem odd_part (x : Nat) (h : x ≠ 0) : ∃ k m, x = 2 ^ k * (2 * m + 1) := by
  induction x using Nat.strongRecOn with
  | _ x ih =>
    rcases Nat.mod_two_eq_zero_or_one x with e | e
    · obtain ⟨k, m, hk⟩ := ih (x / 2) (by omega) (by omega)
      exact ⟨k + 1, m, by rw [Nat.pow_succ, Nat.mul_right_comm, ← hk]; omega⟩
    · exact ⟨0, x / 2, by omega⟩
theorem odd_and (n A : Nat) (hA : A % 2 = 1) (h : A < 2 ^ n) : A &&& (2 ^ n - A) = 1 := by
  have e : 2 ^ n - A = 2 ^ n - (A - 1 + 1) := by congr 1; omega
  apply Nat.eq_of_testBit_eq
  intro i
  rw [e, Nat.testBit_and, Nat.testBit_two_pow_sub_succ (by omega)]
  have hA1 : A = 2 * (A / 2) + 1 := by omega
  cases i with
  | zero => simp [Nat.testBit_zero, hA]; have : 0 < n := by
              rcases Nat.eq_zero_or_pos n with rfl | h'
              · simp at h; omega
              · exact h'
            omega
  | succ i =>
    have h1 : A.testBit (i + 1) = (A / 2).testBit i := by rw [Nat.testBit_succ]
    have h2 : (A - 1).testBit (i + 1) = (A / 2).testBit i := by rw [Nat.testBit_succ]; congr 1; omega
    rw [h1, h2]
    have h3 : Nat.testBit 1 (i + 1) = false := by rw [Nat.testBit_succ]; simp
    rw [h3]
    cases (A / 2).testBit i <;> simp
theorem and_mul (k a b : Nat) : (2 ^ k * a) &&& (2 ^ k * b) = 2 ^ k * (a &&& b) := by
  apply Nat.eq_of_testBit_eq
  intro i
  simp only [Nat.testBit_and, Nat.testBit_two_pow_mul]
  by_cases h : i ≥ k <;> simp [h]
theorem low_bit (n k m : Nat) (h : 2 ^ k * (2 * m + 1) < 2 ^ n) : (2 ^ k * (2 * m + 1)) &&& (2 ^ n - 2 ^ k * (2 * m + 1)) = 2 ^ k := by
  have hk : k ≤ n := by
    apply Nat.le_of_not_lt
    intro hk
    have h1 : 2 ^ n ≤ 2 ^ k := Nat.pow_le_pow_right (by omega) (by omega)
    have h2 : 2 ^ k ≤ 2 ^ k * (2 * m + 1) := Nat.le_mul_of_pos_right _ (by omega)
    omega
  have e : 2 ^ n = 2 ^ k * 2 ^ (n - k) := by rw [← Nat.pow_add]; congr 1; omega
  have hlt : 2 * m + 1 < 2 ^ (n - k) := by rw [e] at h; exact Nat.lt_of_mul_lt_mul_left h
  have e2 : 2 ^ n - 2 ^ k * (2 * m + 1) = 2 ^ k * (2 ^ (n - k) - (2 * m + 1)) := by rw [Nat.mul_sub, ← e]
  rw [e2, and_mul, odd_and (n - k) _ (by omega) hlt, Nat.mul_one]
theorem clear_low (k m : Nat) : (2 ^ k * (2 * m + 1)) &&& (2 ^ k * (2 * m + 1) - 1) = 2 ^ k * (2 * m) := by
  have hp := Nat.two_pow_pos k
  have e : 2 ^ k * (2 * m + 1) - 1 = 2 ^ k * (2 * m) + (2 ^ k - 1) := by rw [Nat.mul_add, Nat.mul_one]; omega
  apply Nat.eq_of_testBit_eq
  intro i
  rw [e, Nat.testBit_and, Nat.testBit_two_pow_mul_add _ (by omega), Nat.testBit_two_pow_mul, Nat.testBit_two_pow_mul]
  by_cases h : i < k
  · simp [h, show ¬ (i ≥ k) by omega]
  · simp only [h, show i ≥ k by omega, decide_true, Bool.true_and, ite_false]
    cases hj : i - k with
    | zero => simp [Nat.testBit_zero]
    | succ j =>
      simp [Nat.testBit_succ, show (2 * m + 1) / 2 = m by omega]
def list (x : Nat) : List Nat := (List.range 64).filter (fun i => x.testBit i)
theorem list_zero : list 0 = [] := by simp [list]
theorem pop_two_pow_sub (n k : Nat) (h : k ≤ n) : pop n (2 ^ k - 1) = k := by
  induction n with
  | zero => obtain rfl : k = 0 := by omega
            rfl
  | succ n ih =>
    rw [pop]
    by_cases e : k = n + 1
    · subst e
      rw [pop_congr n (2 ^ (n + 1) - 1) (2 ^ n - 1) (fun i hi => by rw [Nat.testBit_two_pow_sub_one, Nat.testBit_two_pow_sub_one]; simp; omega)]
      have : pop n (2 ^ n - 1) = n := by
        clear ih h
        induction n with
        | zero => rfl
        | succ n ih => rw [pop, pop_congr n (2 ^ (n + 1) - 1) (2 ^ n - 1) (fun i hi => by rw [Nat.testBit_two_pow_sub_one, Nat.testBit_two_pow_sub_one]; simp; omega), ih]; simp [Nat.testBit_two_pow_sub_one]
      rw [this]; simp [Nat.testBit_two_pow_sub_one]
    · rw [ih (by omega)]; simp [Nat.testBit_two_pow_sub_one]; omega
theorem list_step (x : Nat) (h0 : x ≠ 0) (h : x < 2 ^ 64) :
    list x = pop 64 ((x &&& (2 ^ 64 - x)) - 1) :: list (x &&& (x - 1)) ∧ (x &&& (x - 1)) < x := by
  obtain ⟨k, m, rfl⟩ := odd_part x h0
  have hp := Nat.two_pow_pos k
  have hk : k < 64 := by
    apply Nat.lt_of_not_le
    intro hk
    have h1 : 2 ^ 64 ≤ 2 ^ k := Nat.pow_le_pow_right (by omega) hk
    have h2 : 2 ^ k ≤ 2 ^ k * (2 * m + 1) := Nat.le_mul_of_pos_right _ (by omega)
    omega
  rw [low_bit 64 k m h, clear_low, pop_two_pow_sub 64 k (by omega)]
  constructor
  · unfold list
    obtain ⟨d, hd⟩ : ∃ d, 64 = k + (1 + d) := ⟨64 - k - 1, by omega⟩
    rw [hd, List.range_add, List.filter_append, List.filter_append]
    have z1 : (List.range k).filter (fun i => (2 ^ k * (2 * m + 1)).testBit i) = [] := by
      rw [List.filter_eq_nil_iff]; intro a ha; simp at ha; simp [Nat.testBit_two_pow_mul]; omega
    have z2 : (List.range k).filter (fun i => (2 ^ k * (2 * m)).testBit i) = [] := by
      rw [List.filter_eq_nil_iff]; intro a ha; simp at ha; simp [Nat.testBit_two_pow_mul]; omega
    rw [z1, z2, List.nil_append, List.nil_append, Nat.add_comm 1 d, List.range_succ_eq_map, List.map_cons, List.filter_cons, List.filter_cons]
    have t1 : (2 ^ k * (2 * m + 1)).testBit (k + 0) = true := by simp [Nat.testBit_two_pow_mul, Nat.testBit_zero]
    have t2 : (2 ^ k * (2 * m)).testBit (k + 0) = false := by simp [Nat.testBit_two_pow_mul, Nat.testBit_zero]
    rw [if_pos t1, t2]
    simp only [Nat.add_zero, Bool.false_eq_true, ite_false, List.map_map]
    congr 1
    apply List.filter_congr
    intro a ha
    simp only [List.mem_map, List.mem_range, Function.comp] at ha
    obtain ⟨b, _, rfl⟩ := ha
    simp [Nat.testBit_two_pow_mul, Nat.testBit_succ, show k ≤ k + (b + 1) by omega, show k + (b + 1) - k = b + 1 by omega, show (2 * m + 1) / 2 = m by omega]
  · rw [Nat.mul_add]; omega
theorem list_length (x : Nat) : (list x).length = pop 64 x := (pop_list 64 x).symm
end Go.Proofs.Ytoobbolaoldacaa.BitsPlain
