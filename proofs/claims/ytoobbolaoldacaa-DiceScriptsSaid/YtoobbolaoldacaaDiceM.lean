/-
  Dice: every state behind a throw is one that a call made; a request is the same as itself.
-/
import Derived.Test.YtoobbolaoldacaaDiceY
namespace Go.Proofs.Ytoobbolaoldacaa.DiceW
open Go.RowKit Go.Proofs.Ytoobbolaoldacaa Go.Proofs.Ytoobbolaoldacaa.Dice Go.Proofs.Ytoobbolaoldacaa.DiceP Go.Proofs.Ytoobbolaoldacaa.RowOwn Go.Proofs.YtoobbolaoldacaaW.PrintWords Go.Proofs.YtoobbolaoldacaaW.PrintLast Go.Proofs.YtoobbolaoldacaaW.PrintMore
set_option linter.unusedVariables false
theorem good_c0 {c0 c1 c2 c3 c4 : Int} (h : reqGood c0 c1 c2 c3 c4 = true) : 1 ≤ c0 ∧ c0 ≤ 256 := by
  unfold reqGood at h
  simp only [Bool.and_eq_true, decide_eq_true_eq] at h
  omega
theorem dataN_live : ∀ (n x : Nat), Live x → Live (dataN n x).2
  | 0, _, h => h
  | n + 1, x, h => dataN_live n (lessS 256 x) (lessS_live h)
theorem spanS_live {s : Int} {x : Nat} (h : Live x) : Live (spanS s x) := by
  unfold spanS spanX
  exact lessS_live (lessS_live h)
theorem reqN_live {s : Int} {x : Nat} (h : Live x) : Live (reqN s x).2 := by
  unfold reqN
  by_cases h1 : lessN 5 x < 2
  · rw [if_pos h1]
    dsimp only
    exact spanS_live (lessS_live h)
  · rw [if_neg h1]
    by_cases h2 : lessN 5 x < 4
    · rw [if_pos h2]
      dsimp only
      exact dataN_live _ _ (spanS_live (lessS_live h))
    · rw [if_neg h2]
      dsimp only
      exact lessS_live h
theorem pick_live {p1 p2 p3 p4 : Prop} [Decidable p1] [Decidable p2] [Decidable p3] [Decidable p4] {A1 A2 A3 A4 A5 : Ac} {n1 n2 n3 n4 n5 : Nat} (h1 : Live n1) (h2 : Live n2) (h3 : Live n3) (h4 : Live n4) (h5 : Live n5) :
    Live (if p1 then (A1, n1) else if p2 then (A2, n2) else if p3 then (A3, n3) else if p4 then (A4, n4) else (A5, n5)).2 := by
  split
  · exact h1
  · split
    · exact h2
    · split
      · exact h3
      · split
        · exact h4
        · exact h5
theorem fillN_live {s kind who : Int} {x : Nat} (h : Live x) : Live (fillN s kind who x).2 := by
  have q1 := reqN_live (s := s) h
  have q2 := lessS_live (n := 4) h
  have q3 := step_live (lessS_live (n := 12) h)
  have q4 := step_live h
  unfold fillN
  with_reducible exact pick_live q1 q2 q3 q4 h
theorem actN_live {s a0 a1 a2 a3 a4 a5 a6 a7 : Int} {x : Nat} (h : Live x) : Live (actN s a0 a1 a2 a3 a4 a5 a6 a7 x).2 := by
  unfold actN
  exact fillN_live (lessS_live (lessS_live h))
theorem same_rq (r : Rq) (A A' : Option Addr) (c c' : Nat) (w : World) (h : Kd.C KB w A r.data.length r.data) (hc : r.data.length ≤ c) (h' : Kd.C KB w A' r.data.length r.data) (hc' : r.data.length ≤ c') :
    Calls Try.prog 47 #[.agg #[.int .i64 r.kd, .int .i64 r.off, .int .i64 r.len, .slice A r.data.length c], .agg #[.int .i64 r.kd, .int .i64 r.off, .int .i64 r.len, .slice A' r.data.length c']] w fun e w' => e = .returned (.bool true) ∧ Below w.heap.size w w' :=
  twainref28_Same.calls _ _ _ A c _ _ _ _ A' c' _ true w h hc h' hc' (by simp [twainref28_Same.f])
end Go.Proofs.Ytoobbolaoldacaa.DiceW
