/-
  Plain facts on the sum: the table of half bytes is four plain steps; a step is one-to-one; other bytes within four have another sum.
-/
namespace Go.Proofs.Ytafgaekpmnheoaa.CrcPlain
def step1 (x : Nat) : Nat := if x % 2 = 1 then (x / 2) ^^^ 3988292384 else x / 2
def half (n : Nat) : Nat :=
  [0x00000000, 0x1db71064, 0x3b6e20c8, 0x26d930ac,
   0x76dc4190, 0x6b6b51f4, 0x4db26158, 0x5005713c,
   0xedb88320, 0xf00f9344, 0xd6d6a3e8, 0xcb61b38c,
   0x9b64c2b0, 0x86d3d2d4, 0xa00ae278, 0xbdbdf21c].getD n 0
def L4 (x : Nat) : Nat := step1 (step1 (step1 (step1 x)))
def L8 (x : Nat) : Nat := L4 (L4 x)

theorem xor_mod2 (x y : Nat) : (x ^^^ y) % 2 = (x % 2 + y % 2) % 2 := by
  have h := Nat.testBit_xor x y 0
  simp only [Nat.testBit_zero] at h
  rcases Nat.mod_two_eq_zero_or_one x with hx | hx <;> rcases Nat.mod_two_eq_zero_or_one y with hy | hy <;>
    rcases Nat.mod_two_eq_zero_or_one (x ^^^ y) with hz | hz <;> simp [hx, hy, hz] at h ⊢

theorem xor_div2 (x y : Nat) : (x ^^^ y) / 2 = (x / 2) ^^^ (y / 2) := by
  apply Nat.eq_of_testBit_eq
  intro i
  simp [Nat.testBit_div_two, Nat.testBit_xor]

theorem step1_xor (x y : Nat) : step1 (x ^^^ y) = step1 x ^^^ step1 y := by
  unfold step1
  rw [xor_mod2, xor_div2]
  rcases Nat.mod_two_eq_zero_or_one x with hx | hx <;> rcases Nat.mod_two_eq_zero_or_one y with hy | hy <;> simp [hx, hy]
  · rw [Nat.xor_assoc]
  · rw [Nat.xor_assoc, Nat.xor_assoc, Nat.xor_comm (y / 2)]
  · rw [Nat.xor_assoc, ← Nat.xor_assoc 3988292384, Nat.xor_comm 3988292384, Nat.xor_assoc, Nat.xor_self, Nat.xor_zero]
theorem step1_even (m : Nat) : step1 (2 * m) = m := by
  unfold step1
  rw [if_neg (by omega)]; omega
theorem L4_16 (h : Nat) : L4 (16 * h) = h := by
  unfold L4
  rw [show 16 * h = 2 * (2 * (2 * (2 * h))) by omega, step1_even, step1_even, step1_even, step1_even]
theorem split16 (x : Nat) : x = (16 * (x / 16)) ^^^ (x % 16) := by
  apply Nat.eq_of_testBit_eq
  intro i
  rw [Nat.testBit_xor, show (16:Nat) = 2 ^ 4 from rfl, Nat.testBit_two_pow_mul, Nat.testBit_mod_two_pow, Nat.testBit_div_two_pow]
  by_cases h : i < 4
  · simp [h, show ¬ (4 ≤ i) by omega]
  · simp [h, show (4 ≤ i) by omega, show i - 4 + 4 = i by omega]
theorem L4_xor (x y : Nat) : L4 (x ^^^ y) = L4 x ^^^ L4 y := by
  unfold L4; simp only [step1_xor]
theorem L4_low : ∀ n, n < 16 → L4 n = half n := by decide
theorem L4_eq (x : Nat) : L4 x = (x / 16) ^^^ half (x % 16) := by
  conv => lhs; rw [split16 x]
  rw [L4_xor, L4_16, L4_low _ (Nat.mod_lt _ (by omega))]
theorem step1_lt (x : Nat) (h : x < 2 ^ 32) : step1 x < 2 ^ 32 := by
  unfold step1
  split
  · exact Nat.xor_lt_two_pow (by omega) (by decide)
  · omega
theorem L4_lt (x : Nat) (h : x < 2 ^ 32) : L4 x < 2 ^ 32 := step1_lt _ (step1_lt _ (step1_lt _ (step1_lt _ h)))
theorem L8_lt (x : Nat) (h : x < 2 ^ 32) : L8 x < 2 ^ 32 := L4_lt _ (L4_lt _ h)
theorem L8_xor (x y : Nat) : L8 (x ^^^ y) = L8 x ^^^ L8 y := by unfold L8; simp only [L4_xor]
theorem L8_256 (h : Nat) : L8 (256 * h) = h := by
  unfold L8; rw [show 256 * h = 16 * (16 * h) by omega, L4_16, L4_16]
/-- one step is injective -/
theorem step1_inj (x y : Nat) (hx : x < 2 ^ 32) (hy : y < 2 ^ 32) (h : step1 x = step1 y) : x = y := by
  have top : ∀ z, z < 2 ^ 32 → (step1 z).testBit 31 = decide (z % 2 = 1) := by
    intro z hz
    unfold step1
    have h0 : (z / 2).testBit 31 = false := Nat.testBit_lt_two_pow (by omega)
    split
    · rename_i h1
      rw [Nat.testBit_xor, h0, h1]; decide
    · rename_i h1
      rw [h0]; simp [h1]
  have h2 : x % 2 = y % 2 := by
    have := (top x hx).symm.trans ((congrArg (·.testBit 31) h).trans (top y hy))
    rcases Nat.mod_two_eq_zero_or_one x with a | a <;> rcases Nat.mod_two_eq_zero_or_one y with b | b <;> simp [a, b] at this ⊢
  unfold step1 at h
  rw [h2] at h
  have h3 : x / 2 = y / 2 := by
    split at h
    · have := congrArg (· ^^^ 3988292384) h
      simpa [Nat.xor_assoc] using this
    · exact h
  omega
theorem L4_inj (x y : Nat) (hx : x < 2 ^ 32) (hy : y < 2 ^ 32) (h : L4 x = L4 y) : x = y := by
  have a := fun z (hz : z < 2^32) => step1_lt z hz
  exact step1_inj _ _ hx hy (step1_inj _ _ (a _ hx) (a _ hy) (step1_inj _ _ (a _ (a _ hx)) (a _ (a _ hy)) (step1_inj _ _ (a _ (a _ (a _ hx))) (a _ (a _ (a _ hy))) h)))
theorem L8_inj (x y : Nat) (hx : x < 2 ^ 32) (hy : y < 2 ^ 32) (h : L8 x = L8 y) : x = y :=
  L4_inj _ _ hx hy (L4_inj _ _ (L4_lt _ hx) (L4_lt _ hy) h)

def run (x : Nat) (l : List Nat) : Nat := l.foldl (fun x c => L8 (x ^^^ c)) x
theorem run_lt (l : List Nat) : ∀ x, x < 2 ^ 32 → (∀ c ∈ l, c < 256) → run x l < 2 ^ 32 := by
  induction l with
  | nil => intro x h _; exact h
  | cons c l ih =>
    intro x h hc
    exact ih _ (L8_lt _ (Nat.xor_lt_two_pow h (by have := hc c (by simp); omega))) (fun d hd => hc d (by simp [hd]))
theorem run_inj (l : List Nat) : ∀ x y, x < 2 ^ 32 → y < 2 ^ 32 → (∀ c ∈ l, c < 256) → run x l = run y l → x = y := by
  induction l with
  | nil => intro x y _ _ _ h; exact h
  | cons c l ih =>
    intro x y hx hy hc h
    have hcc : c < 2 ^ 32 := by have := hc c (by simp); omega
    have := ih _ _ (L8_lt _ (Nat.xor_lt_two_pow hx hcc)) (L8_lt _ (Nat.xor_lt_two_pow hy hcc)) (fun d hd => hc d (by simp [hd])) h
    have := L8_inj _ _ (Nat.xor_lt_two_pow hx hcc) (Nat.xor_lt_two_pow hy hcc) this
    have := congrArg (· ^^^ c) this
    simpa [Nat.xor_assoc] using this
/-- four bytes at once -/
def word (a b c d : Nat) : Nat := a ^^^ (256 * (b ^^^ (256 * (c ^^^ (256 * d)))))
theorem run4 (x a b c d : Nat) : run x [a, b, c, d] = L8 (L8 (L8 (L8 (x ^^^ word a b c d)))) := by
  simp only [run, List.foldl, word, L8_xor, L8_256, Nat.xor_assoc]
end Go.Proofs.Ytafgaekpmnheoaa.CrcPlain
namespace Go.Proofs.Ytafgaekpmnheoaa.CrcPlain
theorem xmul (x y : Nat) : 256 * (x ^^^ y) = (256 * x) ^^^ (256 * y) := by
  apply Nat.eq_of_testBit_eq
  intro i
  rw [Nat.testBit_xor, show (256:Nat) = 2 ^ 8 from rfl, Nat.testBit_two_pow_mul, Nat.testBit_two_pow_mul, Nat.testBit_two_pow_mul, Nat.testBit_xor]
  by_cases h : i ≥ 8 <;> simp [h]
theorem word_xor (a b c d a' b' c' d' : Nat) : word (a ^^^ a') (b ^^^ b') (c ^^^ c') (d ^^^ d') = word a b c d ^^^ word a' b' c' d' := by
  unfold word
  simp only [xmul]
  ac_rfl
theorem split256 (x : Nat) : (x % 256) ^^^ (256 * (x / 256)) = x := by
  apply Nat.eq_of_testBit_eq
  intro i
  rw [Nat.testBit_xor, show (256:Nat) = 2 ^ 8 from rfl, Nat.testBit_two_pow_mul, Nat.testBit_mod_two_pow, Nat.testBit_div_two_pow]
  by_cases h : i < 8
  · simp [h, show ¬ (8 ≤ i) by omega]
  · simp [h, show (8 ≤ i) by omega, show i - 8 + 8 = i by omega]
theorem word_of (x : Nat) (hx : x < 2 ^ 32) : word (x % 256) (x / 256 % 256) (x / 256 / 256 % 256) (x / 256 / 256 / 256 % 256) = x := by
  unfold word
  have h3 : x / 256 / 256 / 256 % 256 = x / 256 / 256 / 256 := Nat.mod_eq_of_lt (by omega)
  rw [h3, split256, split256, split256]
theorem word_lt (a b c d : Nat) (ha : a < 256) (hb : b < 256) (hc : c < 256) (hd : d < 256) : word a b c d < 2 ^ 32 := by
  unfold word
  have h1 : (c ^^^ 256 * d) < 2 ^ 16 := Nat.xor_lt_two_pow (by omega) (by omega)
  have h2 : b ^^^ 256 * (c ^^^ 256 * d) < 2 ^ 24 := Nat.xor_lt_two_pow (by omega) (by omega)
  exact Nat.xor_lt_two_pow (by omega) (by omega)
theorem run_append (x : Nat) (l m : List Nat) : run x (l ++ m) = run (run x l) m := by simp [run, List.foldl_append]
theorem burst (x : Nat) (hx : x < 2 ^ 32) (l m : List Nat) (a b c d by_ : Nat) (hl : ∀ c ∈ l, c < 256) (hm : ∀ c ∈ m, c < 256)
    (ha : a < 256) (hb : b < 256) (hc : c < 256) (hd : d < 256) (hby : by_ < 2 ^ 32) (h0 : by_ ≠ 0)
    (h : run x (l ++ ([a, b, c, d] ++ m)) = run x (l ++ ([a ^^^ (by_ % 256), b ^^^ (by_ / 256 % 256), c ^^^ (by_ / 256 / 256 % 256), d ^^^ (by_ / 256 / 256 / 256 % 256)] ++ m))) : False := by
  have hr := run_lt l x hx hl
  rw [run_append, run_append, run_append, run_append] at h
  have e : ∀ z, z < 256 → ∀ y, z ^^^ (y % 256) < 256 := fun z hz y => Nat.xor_lt_two_pow (n := 8) hz (Nat.mod_lt _ (by omega))
  have h4 := run_inj m _ _ (run_lt _ _ hr (by intro q hq; simp at hq; rcases hq with rfl | rfl | rfl | rfl <;> assumption))
    (run_lt _ _ hr (by intro q hq; simp at hq; rcases hq with rfl | rfl | rfl | rfl <;> exact e _ ‹_› _)) hm h
  rw [run4, run4, word_xor, word_of _ hby] at h4
  have hw := word_lt a b c d ha hb hc hd
  have L := L8_lt
  have A : (run x l ^^^ word a b c d) < 2 ^ 32 := Nat.xor_lt_two_pow hr hw
  have B : (run x l ^^^ (word a b c d ^^^ by_)) < 2 ^ 32 := Nat.xor_lt_two_pow hr (Nat.xor_lt_two_pow hw hby)
  have h5 := L8_inj _ _ A B (L8_inj _ _ (L _ A) (L _ B) (L8_inj _ _ (L _ (L _ A)) (L _ (L _ B)) (L8_inj _ _ (L _ (L _ (L _ A))) (L _ (L _ (L _ B))) h4)))
  have h6 := congrArg (fun z => word a b c d ^^^ (run x l ^^^ z)) h5
  have : by_ = 0 := by
    have h7 : ∀ p q r : Nat, q ^^^ (p ^^^ (p ^^^ r)) = q ^^^ r := by intro p q r; rw [← Nat.xor_assoc p, Nat.xor_self, Nat.zero_xor]
    rw [h7, h7, Nat.xor_self, ← Nat.xor_assoc, Nat.xor_self, Nat.zero_xor] at h6
    exact h6.symm
  exact h0 this
end Go.Proofs.Ytafgaekpmnheoaa.CrcPlain
