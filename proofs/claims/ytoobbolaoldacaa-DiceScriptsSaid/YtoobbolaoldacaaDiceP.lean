/-
  The dice's numbers, as plain facts.
-/
import Derived.Laws.Bits64
namespace Go.Proofs.Ytoobbolaoldacaa.DiceP
def st1 (x : Nat) : Nat := x ^^^ x / 4096
def st2 (x : Nat) : Nat := x ^^^ x * 33554432 % 18446744073709551616
def st3 (x : Nat) : Nat := x ^^^ x / 134217728
/-- the state behind a throw -/
def stepN (x : Nat) : Nat := st3 (st2 (st1 x))
/-- the number thrown -/
def outN (x : Nat) : Nat := stepN x * 2685821657736338717 % 18446744073709551616
/-- a state that a call made -/
def Live (x : Nat) : Prop := 0 < x ∧ x < 18446744073709551616
theorem xor_pos {a b : Nat} (h : a ≠ b) : 0 < a ^^^ b := by
  rcases Nat.eq_zero_or_pos (a ^^^ b) with h0 | h0
  · exact absurd (Nat.eq_of_testBit_eq fun i => by
      have h1 := Nat.testBit_xor a b i
      rw [h0, Nat.zero_testBit] at h1
      cases ha : a.testBit i <;> cases hb : b.testBit i <;> rw [ha, hb] at h1 <;> simp at h1 <;> rfl) h
  · exact h0
theorem xor_lt {a b : Nat} (ha : a < 18446744073709551616) (hb : b < 18446744073709551616) : a ^^^ b < 18446744073709551616 := Nat.xor_lt_two_pow (n := 64) ha hb
theorem st1_live {x : Nat} (h : Live x) : Live (st1 x) := ⟨xor_pos (by have := h.1; omega), xor_lt h.2 (by have := h.2; omega)⟩
theorem ne2 {x : Nat} (h : Live x) : x ≠ x * 33554432 % 18446744073709551616 := by
  intro he
  have h1 : x * 33554432 = 18446744073709551616 * (x * 33554432 / 18446744073709551616) + x := by
    have := Nat.div_add_mod (x * 33554432) 18446744073709551616
    rw [← he] at this
    exact this.symm
  have h2 : 33554431 * x = 18446744073709551616 * (x * 33554432 / 18446744073709551616) := by
    generalize x * 33554432 / 18446744073709551616 = q at h1
    clear he
    have e : x * 33554432 = 33554431 * x + x := by rw [Nat.mul_comm, show (33554432 : Nat) = 33554431 + 1 from rfl, Nat.add_mul, Nat.one_mul]
    rw [e] at h1
    exact Nat.add_right_cancel h1
  have hd : 18446744073709551616 ∣ x := Nat.Coprime.dvd_of_dvd_mul_left (k := 18446744073709551616) (m := 33554431) (n := x) (by decide +kernel) ⟨_, h2⟩
  exact absurd (Nat.le_of_dvd h.1 hd) (Nat.not_le.2 h.2)
theorem st2_live {x : Nat} (h : Live x) : Live (st2 x) := ⟨xor_pos (ne2 h), xor_lt h.2 (Nat.mod_lt _ (by decide))⟩
theorem st3_live {x : Nat} (h : Live x) : Live (st3 x) := ⟨xor_pos (by have := h.1; omega), xor_lt h.2 (by have := h.2; omega)⟩
theorem step_live {x : Nat} (h : Live x) : Live (stepN x) := st3_live (st2_live (st1_live h))
theorem out_lt (x : Nat) : outN x < 18446744073709551616 := Nat.mod_lt _ (by decide)
theorem i1 {x : Nat} (h : Live x) : bits .xor .u64 (x : Int) ((x : Int) / 4096) = ((st1 x : Nat) : Int) := xorShift_u64 x 4096 h.2
theorem i2 {x : Nat} (h : Live x) : bits .xor .u64 (x : Int) ((x : Int) * 33554432 % 18446744073709551616) = ((st2 x : Nat) : Int) := by
  rw [show ((x : Int) * 33554432 % 18446744073709551616) = ((x * 33554432 % 18446744073709551616 : Nat) : Int) by omega]
  exact bits_xor_u64_nat _ _ h.2 (by omega)
theorem i2' {x : Nat} (h : Live x) : bits .xor .u64 (x : Int) (IntKind.u64.wrap ((x : Int) * 33554432)) = ((st2 x : Nat) : Int) := by
  rw [IntKind.wrap_u64]
  exact i2 h
theorem i3 {x : Nat} (h : Live x) : bits .xor .u64 (x : Int) ((x : Int) / 134217728) = ((st3 x : Nat) : Int) := xorShift_u64 x 134217728 h.2
theorem io (x : Nat) : ((stepN x : Nat) : Int) * 2685821657736338717 % 18446744073709551616 = ((outN x : Nat) : Int) := by
  unfold outN
  omega
theorem io' (x : Nat) : IntKind.u64.wrap (((stepN x : Nat) : Int) * 2685821657736338717) = ((outN x : Nat) : Int) := by
  rw [IntKind.wrap_u64]
  exact io x
/-- a number below another one, and the state behind it -/
def lessN (n : Int) (x : Nat) : Int := if n < 1 then 0 else ((outN x % n.toNat : Nat) : Int)
def lessS (n : Int) (x : Nat) : Nat := if n < 1 then x else stepN x
theorem lessS_live {n : Int} {x : Nat} (h : Live x) : Live (lessS n x) := by unfold lessS; split; exact h; exact step_live h
theorem lessN_le {n : Int} {x : Nat} : 0 ≤ lessN n x := by unfold lessN; split <;> omega
theorem lessN_lt {n : Int} {x : Nat} (h : 1 ≤ n) : lessN n x < n := by
  unfold lessN
  rw [if_neg (by omega)]
  have := Nat.mod_lt (outN x) (show 0 < n.toNat by omega)
  omega
end Go.Proofs.Ytoobbolaoldacaa.DiceP
