/-
  Dice that a call made: requests and acts, whatever the settings and the weights.
-/
import Derived.Test.YtoobbolaoldacaaDiceZB
namespace Go.Proofs.Ytoobbolaoldacaa.DiceW
open Go.RowKit Go.Proofs.Ytoobbolaoldacaa Go.Proofs.Ytoobbolaoldacaa.Dice Go.Proofs.Ytoobbolaoldacaa.DiceP Go.Proofs.Ytoobbolaoldacaa.RowOwn Go.Proofs.YtoobbolaoldacaaW.PrintWords Go.Proofs.YtoobbolaoldacaaW.PrintLast Go.Proofs.YtoobbolaoldacaaW.PrintMore
set_option linter.unusedVariables false
def reqG (c0 c1 c2 c3 c4 : Int) (x : Nat) : Rq × Nat := if reqGood c0 c1 c2 c3 c4 = true then reqN c0 x else (rq0, x)
def actG (c0 c1 c2 c3 c4 a0 a1 a2 a3 a4 a5 a6 a7 : Int) (x : Nat) : Ac × Nat := if reqGood c0 c1 c2 c3 c4 = true ∧ sum8 a0 a1 a2 a3 a4 a5 a6 a7 ≠ 0 then actN c0 a0 a1 a2 a3 a4 a5 a6 a7 x else (ac0, x)
theorem good_c0 {c0 c1 c2 c3 c4 : Int} (h : reqGood c0 c1 c2 c3 c4 = true) : 1 ≤ c0 ∧ c0 ≤ 256 := by
  unfold reqGood at h
  simp only [Bool.and_eq_true, decide_eq_true_eq] at h
  omega
theorem request_any (g x : Nat) (c0 c1 c2 c3 c4 : Int) (w : World) (hl : Live x) (h : DAt 113 w g x) : Calls Try.prog 48 #[.pointer (some ⟨g, 0, none⟩), Cf c0 c1 c2 c3 c4] w (ReqQ 113 w g (reqG c0 c1 c2 c3 c4 x)) := by
  by_cases hg : reqGood c0 c1 c2 c3 c4 = true
  · rw [show reqG c0 c1 c2 c3 c4 x = reqN c0 x from if_pos hg]
    exact request_c g x c0 c1 c2 c3 c4 w hl hg (good_c0 hg).1 (good_c0 hg).2 h
  · rw [show reqG c0 c1 c2 c3 c4 x = (rq0, x) from if_neg hg]
    exact (request_bad g x c0 c1 c2 c3 c4 w hl (by simpa using hg) h).mono fun e w' ⟨he, hb⟩ => ⟨.slice none 0 0, he, Kd.R_nil _ _ _ _ _, d_below h hb, OnlyS.of_below hb⟩
theorem rrequest_any (g x : Nat) (c0 c1 c2 c3 c4 : Int) (w : World) (hl : Live x) (h : DAt 149 w g x) : Calls Try.prog 49 #[.pointer (some ⟨g, 0, none⟩), Cf c0 c1 c2 c3 c4] w (ReqQ 149 w g (reqG c0 c1 c2 c3 c4 x)) := by
  by_cases hg : reqGood c0 c1 c2 c3 c4 = true
  · rw [show reqG c0 c1 c2 c3 c4 x = reqN c0 x from if_pos hg]
    exact rrequest_c g x c0 c1 c2 c3 c4 w hl hg (good_c0 hg).1 (good_c0 hg).2 h
  · rw [show reqG c0 c1 c2 c3 c4 x = (rq0, x) from if_neg hg]
    exact (rrequest_bad g x c0 c1 c2 c3 c4 w hl (by simpa using hg) h).mono fun e w' ⟨he, hb⟩ => ⟨.slice none 0 0, he, Kd.R_nil _ _ _ _ _, d_below h hb, OnlyS.of_below hb⟩
theorem act_any (g x : Nat) (c0 c1 c2 c3 c4 a0 a1 a2 a3 a4 a5 a6 a7 : Int) (w : World) (hl : Live x) (h : DAt 113 w g x) : Calls Try.prog 51 #[.pointer (some ⟨g, 0, none⟩), Cf c0 c1 c2 c3 c4, W8 a0 a1 a2 a3 a4 a5 a6 a7] w (ActQ 113 w g (actG c0 c1 c2 c3 c4 a0 a1 a2 a3 a4 a5 a6 a7 x)) := by
  by_cases hg : reqGood c0 c1 c2 c3 c4 = true
  · by_cases hs : sum8 a0 a1 a2 a3 a4 a5 a6 a7 = 0
    · rw [show actG c0 c1 c2 c3 c4 a0 a1 a2 a3 a4 a5 a6 a7 x = (ac0, x) from if_neg (fun hh => hh.2 hs)]
      exact (act_bad2 g x c0 c1 c2 c3 c4 a0 a1 a2 a3 a4 a5 a6 a7 w hl hg hs h).mono fun e w' ⟨he, hb⟩ => ⟨.slice none 0 0, he, Kd.R_nil _ _ _ _ _, d_below h hb, OnlyS.of_below hb⟩
    · rw [show actG c0 c1 c2 c3 c4 a0 a1 a2 a3 a4 a5 a6 a7 x = actN c0 a0 a1 a2 a3 a4 a5 a6 a7 x from if_pos ⟨hg, hs⟩]
      exact act_c g x c0 c1 c2 c3 c4 a0 a1 a2 a3 a4 a5 a6 a7 w hl hg (good_c0 hg).1 (good_c0 hg).2 hs h
  · rw [show actG c0 c1 c2 c3 c4 a0 a1 a2 a3 a4 a5 a6 a7 x = (ac0, x) from if_neg (fun hh => hg hh.1)]
    exact (act_bad1 g x c0 c1 c2 c3 c4 a0 a1 a2 a3 a4 a5 a6 a7 w hl (by simpa using hg) h).mono fun e w' ⟨he, hb⟩ => ⟨.slice none 0 0, he, Kd.R_nil _ _ _ _ _, d_below h hb, OnlyS.of_below hb⟩
theorem ract_any (g x : Nat) (c0 c1 c2 c3 c4 a0 a1 a2 a3 a4 a5 a6 a7 : Int) (w : World) (hl : Live x) (h : DAt 149 w g x) : Calls Try.prog 50 #[.pointer (some ⟨g, 0, none⟩), Cf c0 c1 c2 c3 c4, W8 a0 a1 a2 a3 a4 a5 a6 a7] w (ActQ 149 w g (actG c0 c1 c2 c3 c4 a0 a1 a2 a3 a4 a5 a6 a7 x)) := by
  by_cases hg : reqGood c0 c1 c2 c3 c4 = true
  · by_cases hs : sum8 a0 a1 a2 a3 a4 a5 a6 a7 = 0
    · rw [show actG c0 c1 c2 c3 c4 a0 a1 a2 a3 a4 a5 a6 a7 x = (ac0, x) from if_neg (fun hh => hh.2 hs)]
      exact (ract_bad2 _ c0 c1 c2 c3 c4 a0 a1 a2 a3 a4 a5 a6 a7 w hg hs).mono fun e w' ⟨he, hb⟩ => ⟨.slice none 0 0, he, Kd.R_nil _ _ _ _ _, d_below h hb, OnlyS.of_below hb⟩
    · rw [show actG c0 c1 c2 c3 c4 a0 a1 a2 a3 a4 a5 a6 a7 x = actN c0 a0 a1 a2 a3 a4 a5 a6 a7 x from if_pos ⟨hg, hs⟩]
      exact ract_c g x c0 c1 c2 c3 c4 a0 a1 a2 a3 a4 a5 a6 a7 w hl hg (good_c0 hg).1 (good_c0 hg).2 hs h
  · rw [show actG c0 c1 c2 c3 c4 a0 a1 a2 a3 a4 a5 a6 a7 x = (ac0, x) from if_neg (fun hh => hg hh.1)]
    exact (ract_bad1 _ c0 c1 c2 c3 c4 a0 a1 a2 a3 a4 a5 a6 a7 w (by simpa using hg)).mono fun e w' ⟨he, hb⟩ => ⟨.slice none 0 0, he, Kd.R_nil _ _ _ _ _, d_below h hb, OnlyS.of_below hb⟩
end Go.Proofs.Ytoobbolaoldacaa.DiceW
