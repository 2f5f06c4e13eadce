/-
  DiceThrows: the walk over the numbers as they come.
-/
import Derived.Test.YtoobbolaoldacaaDiceTW
namespace Go.Proofs.Ytoobbolaoldacaa.DiceW
open Go.RowKit Go.Proofs.Ytoobbolaoldacaa Go.Proofs.Ytoobbolaoldacaa.Dice Go.Proofs.Ytoobbolaoldacaa.DiceP Go.Proofs.Ytoobbolaoldacaa.RowOwn Go.Proofs.YtoobbolaoldacaaW.PrintWords Go.Proofs.YtoobbolaoldacaaW.PrintLast Go.Proofs.YtoobbolaoldacaaW.PrintMore
theorem u64_of {x : Int} (h : (Lit.int .u64 x).wf = true) : ∃ n : Nat, x = n ∧ n < 18446744073709551616 := by
  simp [Lit.wf, IntKind.min, IntKind.max, IntKind.bits, IntKind.signed] at h
  exact ⟨x.toNat, by omega, by omega⟩
theorem i64_of {x : Int} (h : (Lit.int .i64 x).wf = true) : -9223372036854775808 ≤ x ∧ x < 9223372036854775808 := by
  simp [Lit.wf, IntKind.min, IntKind.max, IntKind.bits, IntKind.signed] at h
  omega
theorem throws_any (A : Option Addr) (cap : Nat) (l : List Int) (hl : ∀ y ∈ l, (Lit.int .i64 y).wf = true) (s : Int) (hs : (Lit.int .u64 s).wf = true) (c0 c1 c2 c3 c4 a0 a1 a2 a3 a4 a5 a6 a7 : Int) (w : World) (hr : Kd.C (Kd.int .i64) w A l.length l) :
    Calls Try.prog 9 #[.agg #[.int .i64 c0, .int .i64 c1, .int .i64 c2, .int .i64 c3, .int .i64 c4], .slice A l.length cap, .agg #[.int .u64 s, .int .i64 a0, .int .i64 a1, .int .i64 a2, .int .i64 a3, .int .i64 a4, .int .i64 a5, .int .i64 a6, .int .i64 a7]] w fun e w' => e = .returned (.bool true) ∧ Below w.heap.size w w' := by
  obtain ⟨n, rfl, hn⟩ := u64_of hs
  exact throws_walk A cap l (fun y hy => (i64_of (hl y hy)).2) n hn c0 c1 c2 c3 c4 a0 a1 a2 a3 a4 a5 a6 a7 w hr
end Go.Proofs.Ytoobbolaoldacaa.DiceW
