/-
  Dice: a script, the program's, whatever is asked (printed by tools/mkdicek.py).
-/
import Derived.Test.YtoobbolaoldacaaDiceM
namespace Go.Proofs.Ytoobbolaoldacaa.DiceW
open Go.RowKit Go.Proofs.Ytoobbolaoldacaa Go.Proofs.Ytoobbolaoldacaa.Dice Go.Proofs.Ytoobbolaoldacaa.DiceP Go.Proofs.Ytoobbolaoldacaa.RowOwn Go.Proofs.YtoobbolaoldacaaW.PrintWords Go.Proofs.YtoobbolaoldacaaW.PrintLast Go.Proofs.YtoobbolaoldacaaW.PrintMore
set_option linter.unusedVariables false
set_option maxRecDepth 20000 in
theorem script_no (s n : Int) (c0 c1 c2 c3 c4 a0 a1 a2 a3 a4 a5 a6 a7 : Int) (w : World) (hbad : n < 0 ∨ 1000 < n ∨ reqGood c0 c1 c2 c3 c4 = false ∨ sum8 a0 a1 a2 a3 a4 a5 a6 a7 = 0) :
    Calls Try.prog 52 #[.int .u64 s, Cf c0 c1 c2 c3 c4, .int .i64 n, W8 a0 a1 a2 a3 a4 a5 a6 a7] w fun e w' => e = .returned (.slice none 0 0) ∧ Below w.heap.size w w' := by
  have hS : SI 110 w w.heap.size c0 c1 c2 c3 c4 a0 a1 a2 a3 a4 a5 a6 a7 ((w.alloc (.cells #[.int .i64 c0, .int .i64 c1, .int .i64 c2, .int .i64 c3, .int .i64 c4] 92)).alloc (.cells #[.int .i64 a0, .int .i64 a1, .int .i64 a2, .int .i64 a3, .int .i64 a4, .int .i64 a5, .int .i64 a6, .int .i64 a7] 110)) := ⟨old_at (new_at _ _) _, new_at1 _ _ _, bl_all (bl_all (Below.refl _ _) _) _, rfl⟩
  have GD := Lib.hid (fun w => reqGood_walk c0 c1 c2 c3 c4 w)
  have SM := Lib.hid (fun w => sum_walk a0 a1 a2 a3 a4 a5 a6 a7 w)
  by_cases h1 : n < 0
  · clear hbad
    go_enter Try.func52, Try.ntmps52
    go_upto_region 1 with (fail)
    generalize ((w.alloc (.cells #[.int .i64 c0, .int .i64 c1, .int .i64 c2, .int .i64 c3, .int .i64 c4] 92)).alloc (.cells #[.int .i64 a0, .int .i64 a1, .int .i64 a2, .int .i64 a3, .int .i64 a4, .int .i64 a5, .int .i64 a6, .int .i64 a7] 110)) = W0 at hS ⊢
    obtain ⟨f0, f1, f2, f3, f4⟩ := si_cf hS
    have HS0 := Lib.hid hS
    clear hS
    go_wp2_with fail
    go_ret
    exact ⟨rfl, HS0.out.2.2.1⟩
  by_cases h2 : n > 1000
  · clear hbad
    go_enter Try.func52, Try.ntmps52
    go_upto_region 1 with (fail)
    generalize ((w.alloc (.cells #[.int .i64 c0, .int .i64 c1, .int .i64 c2, .int .i64 c3, .int .i64 c4] 92)).alloc (.cells #[.int .i64 a0, .int .i64 a1, .int .i64 a2, .int .i64 a3, .int .i64 a4, .int .i64 a5, .int .i64 a6, .int .i64 a7] 110)) = W0 at hS ⊢
    obtain ⟨f0, f1, f2, f3, f4⟩ := si_cf hS
    have HS0 := Lib.hid hS
    clear hS
    go_wp2_with fail
    go_ret
    exact ⟨rfl, HS0.out.2.2.1⟩
  have h2' : ¬ 1000 < n := h2
  cases hg : reqGood c0 c1 c2 c3 c4 with
  | false =>
    have HG := Lib.hid hg
    clear hbad hg h2'
    go_enter Try.func52, Try.ntmps52
    go_upto_region 1 with (fail)
    generalize ((w.alloc (.cells #[.int .i64 c0, .int .i64 c1, .int .i64 c2, .int .i64 c3, .int .i64 c4] 92)).alloc (.cells #[.int .i64 a0, .int .i64 a1, .int .i64 a2, .int .i64 a3, .int .i64 a4, .int .i64 a5, .int .i64 a6, .int .i64 a7] 110)) = W0 at hS ⊢
    obtain ⟨f0, f1, f2, f3, f4⟩ := si_cf hS
    have HS0 := Lib.hid hS
    clear hS
    go_wp2_with (go_at_call 53; refine (GD.out _).mono ?_; rw [HG.out]; rintro e w3 ⟨rfl, hb3⟩)
    go_ret
    exact ⟨rfl, bl_then HS0.out.2.2.1 hb3⟩
  | true =>
    have hs0 : sum8 a0 a1 a2 a3 a4 a5 a6 a7 = 0 := by
      rcases hbad with h | h | h | h
      · exact absurd h h1
      · exact absurd h h2'
      · rw [hg] at h; cases h
      · exact h
    have HG := Lib.hid hg
    have HZ := Lib.hid hs0
    clear hbad hg h2' hs0
    go_enter Try.func52, Try.ntmps52
    go_upto_region 1 with (fail)
    generalize ((w.alloc (.cells #[.int .i64 c0, .int .i64 c1, .int .i64 c2, .int .i64 c3, .int .i64 c4] 92)).alloc (.cells #[.int .i64 a0, .int .i64 a1, .int .i64 a2, .int .i64 a3, .int .i64 a4, .int .i64 a5, .int .i64 a6, .int .i64 a7] 110)) = W0 at hS ⊢
    obtain ⟨f0, f1, f2, f3, f4⟩ := si_cf hS
    have HS0 := Lib.hid hS
    clear hS
    go_wp2_with (first
      | (go_at_call 53; refine (GD.out _).mono ?_; rw [HG.out]; rintro e w3 ⟨rfl, hb3⟩; have HS3 := Lib.hid (si_below HS0.out hb3); obtain ⟨e0, e1, e2, e3, e4, e5, e6, e7⟩ := si_ws HS3.out; clear f0 f1 f2 f3 f4 HS0 hb3)
      | (go_at_call 87; refine (SM.out _).mono ?_; rw [HZ.out]; rintro e w1 ⟨rfl, hb1⟩))
    go_ret
    exact ⟨rfl, bl_then HS3.out.2.2.1 hb1⟩
/-- the acts of a script -/
def scrG (n : Int) (c0 c1 c2 c3 c4 a0 a1 a2 a3 a4 a5 a6 a7 : Int) (s : Nat) : List Ac := if n < 0 ∨ 1000 < n ∨ reqGood c0 c1 c2 c3 c4 = false ∨ sum8 a0 a1 a2 a3 a4 a5 a6 a7 = 0 then [] else scL (actN c0 a0 a1 a2 a3 a4 a5 a6 a7) n.toNat (seedN s)
/-- a script whatever the settings and the weights -/
theorem script_any (s : Nat) (n : Int) (c0 c1 c2 c3 c4 a0 a1 a2 a3 a4 a5 a6 a7 : Int) (w : World) (hs : s < 18446744073709551616) :
    Calls Try.prog 52 #[.int .u64 (s : Int), Cf c0 c1 c2 c3 c4, .int .i64 n, W8 a0 a1 a2 a3 a4 a5 a6 a7] w fun e w' => ∃ v, e = .returned v ∧ Row KA 106 w' w.heap.size (fun _ => True) v (scrG n c0 c1 c2 c3 c4 a0 a1 a2 a3 a4 a5 a6 a7 s) ∧ Below w.heap.size w w' := by
  by_cases hb : n < 0 ∨ 1000 < n ∨ reqGood c0 c1 c2 c3 c4 = false ∨ sum8 a0 a1 a2 a3 a4 a5 a6 a7 = 0
  · rw [show scrG n c0 c1 c2 c3 c4 a0 a1 a2 a3 a4 a5 a6 a7 s = [] from if_pos hb]
    exact (script_no s n c0 c1 c2 c3 c4 a0 a1 a2 a3 a4 a5 a6 a7 w hb).mono fun e w' ⟨he, hbl⟩ => ⟨_, he, row_nil _ _ _ _ _, hbl⟩
  · rw [show scrG n c0 c1 c2 c3 c4 a0 a1 a2 a3 a4 a5 a6 a7 s = scL (actN c0 a0 a1 a2 a3 a4 a5 a6 a7) n.toNat (seedN s) from if_neg hb]
    have h1 : ¬ n < 0 := fun h => hb (.inl h)
    have h2 : ¬ 1000 < n := fun h => hb (.inr (.inl h))
    have h3 : reqGood c0 c1 c2 c3 c4 = true := by
      cases h : reqGood c0 c1 c2 c3 c4 with
      | true => rfl
      | false => exact absurd (.inr (.inr (.inl h))) hb
    have h4 : sum8 a0 a1 a2 a3 a4 a5 a6 a7 ≠ 0 := fun h => hb (.inr (.inr (.inr h)))
    obtain ⟨m, rfl⟩ := Int.eq_ofNat_of_zero_le (show 0 ≤ n by omega)
    exact script_with (actN c0 a0 a1 a2 a3 a4 a5 a6 a7) s m c0 c1 c2 c3 c4 a0 a1 a2 a3 a4 a5 a6 a7 w hs (by omega) h3 h4 (fun x hx => actN_live hx) (fun W g x hx hd => act_c g x c0 c1 c2 c3 c4 a0 a1 a2 a3 a4 a5 a6 a7 W hx h3 (good_c0 h3).1 (good_c0 h3).2 h4 hd)
end Go.Proofs.Ytoobbolaoldacaa.DiceW
