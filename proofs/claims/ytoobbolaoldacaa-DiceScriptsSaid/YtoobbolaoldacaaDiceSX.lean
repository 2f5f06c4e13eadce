/-
  DiceScripts: the walk over the numbers as they come.
-/
import Derived.Test.YtoobbolaoldacaaDiceSW
namespace Go.Proofs.Ytoobbolaoldacaa.DiceW
open Go.RowKit Go.Proofs.Ytoobbolaoldacaa Go.Proofs.Ytoobbolaoldacaa.Dice Go.Proofs.Ytoobbolaoldacaa.DiceP
theorem scripts_any (s n m : Int) (hs : (Lit.int .u64 s).wf = true) (hn : (Lit.int .i64 n).wf = true) (hm : (Lit.int .i64 m).wf = true) (c0 c1 c2 c3 c4 a0 a1 a2 a3 a4 a5 a6 a7 : Int) (w : World) :
    Calls Try.prog 12 #[.agg #[.int .i64 c0, .int .i64 c1, .int .i64 c2, .int .i64 c3, .int .i64 c4], .agg #[.int .u64 s, .int .i64 n, .int .i64 m, .int .i64 a0, .int .i64 a1, .int .i64 a2, .int .i64 a3, .int .i64 a4, .int .i64 a5, .int .i64 a6, .int .i64 a7]] w fun e w' => e = .returned (.bool true) ∧ Below w.heap.size w w' := by
  have h : 0 ≤ s ∧ s < 18446744073709551616 := by
    simp [Lit.wf, IntKind.min, IntKind.max, IntKind.bits, IntKind.signed] at hs
    omega
  have h1 : -9223372036854775808 ≤ n ∧ n < 9223372036854775808 := by
    simp [Lit.wf, IntKind.min, IntKind.max, IntKind.bits, IntKind.signed] at hn
    omega
  have h2 : -9223372036854775808 ≤ m ∧ m < 9223372036854775808 := by
    simp [Lit.wf, IntKind.min, IntKind.max, IntKind.bits, IntKind.signed] at hm
    omega
  obtain ⟨k, rfl⟩ := Int.eq_ofNat_of_zero_le h.1
  exact scripts_walk k (by omega) n m h1 h2 c0 c1 c2 c3 c4 a0 a1 a2 a3 a4 a5 a6 a7 w
end Go.Proofs.Ytoobbolaoldacaa.DiceW
