/-
  Dice: the weights, their sum, and the kind that a number tells (printed by tools/mkdicew.py).
-/
import Derived.Test.YtoobbolaoldacaaDiceT
import Derived.LoopTactic
namespace Go.Proofs.Ytoobbolaoldacaa.DiceW
open Go.RowKit Go.Proofs.Ytoobbolaoldacaa Go.Proofs.Ytoobbolaoldacaa.DiceP Go.Proofs.Ytoobbolaoldacaa.RowOwn Go.Proofs.YtoobbolaoldacaaW.PrintWords Go.Proofs.YtoobbolaoldacaaW.PrintMore
set_option linter.unusedVariables false
/-- a weight that may be -/
def Wt (a : Int) : Prop := 0 ≤ a ∧ a ≤ 1000
instance (a : Int) : Decidable (Wt a) := inferInstanceAs (Decidable (_ ∧ _))
abbrev W8 (a0 a1 a2 a3 a4 a5 a6 a7 : Int) : Value := .agg #[.int .i64 a0, .int .i64 a1, .int .i64 a2, .int .i64 a3, .int .i64 a4, .int .i64 a5, .int .i64 a6, .int .i64 a7]
def All8 (a0 a1 a2 a3 a4 a5 a6 a7 : Int) : Prop := Wt a0 ∧ Wt a1 ∧ Wt a2 ∧ Wt a3 ∧ Wt a4 ∧ Wt a5 ∧ Wt a6 ∧ Wt a7
instance (a0 a1 a2 a3 a4 a5 a6 a7 : Int) : Decidable (All8 a0 a1 a2 a3 a4 a5 a6 a7) := inferInstanceAs (Decidable (_ ∧ _ ∧ _ ∧ _ ∧ _ ∧ _ ∧ _ ∧ _))
def sum8 (a0 a1 a2 a3 a4 a5 a6 a7 : Int) : Int := if All8 a0 a1 a2 a3 a4 a5 a6 a7 then a0 + a1 + a2 + a3 + a4 + a5 + a6 + a7 else 0
def kind8 (a0 a1 a2 a3 a4 a5 a6 a7 at_ : Int) : Int := (if at_ < a0 then 0 else (if at_ - a0 < a1 then 1 else (if at_ - a0 - a1 < a2 then 2 else (if at_ - a0 - a1 - a2 < a3 then 3 else (if at_ - a0 - a1 - a2 - a3 < a4 then 4 else (if at_ - a0 - a1 - a2 - a3 - a4 < a5 then 5 else (if at_ - a0 - a1 - a2 - a3 - a4 - a5 < a6 then 6 else (if at_ - a0 - a1 - a2 - a3 - a4 - a5 - a6 < a7 then 7 else 0))))))))
theorem sum8_no0 {a0 a1 a2 a3 a4 a5 a6 a7 : Int} (h : ¬ Wt a0) : sum8 a0 a1 a2 a3 a4 a5 a6 a7 = 0 := if_neg (fun hh => h hh.1)
theorem sum8_no1 {a0 a1 a2 a3 a4 a5 a6 a7 : Int} (h : ¬ Wt a1) : sum8 a0 a1 a2 a3 a4 a5 a6 a7 = 0 := if_neg (fun hh => h hh.2.1)
theorem sum8_no2 {a0 a1 a2 a3 a4 a5 a6 a7 : Int} (h : ¬ Wt a2) : sum8 a0 a1 a2 a3 a4 a5 a6 a7 = 0 := if_neg (fun hh => h hh.2.2.1)
theorem sum8_no3 {a0 a1 a2 a3 a4 a5 a6 a7 : Int} (h : ¬ Wt a3) : sum8 a0 a1 a2 a3 a4 a5 a6 a7 = 0 := if_neg (fun hh => h hh.2.2.2.1)
theorem sum8_no4 {a0 a1 a2 a3 a4 a5 a6 a7 : Int} (h : ¬ Wt a4) : sum8 a0 a1 a2 a3 a4 a5 a6 a7 = 0 := if_neg (fun hh => h hh.2.2.2.2.1)
theorem sum8_no5 {a0 a1 a2 a3 a4 a5 a6 a7 : Int} (h : ¬ Wt a5) : sum8 a0 a1 a2 a3 a4 a5 a6 a7 = 0 := if_neg (fun hh => h hh.2.2.2.2.2.1)
theorem sum8_no6 {a0 a1 a2 a3 a4 a5 a6 a7 : Int} (h : ¬ Wt a6) : sum8 a0 a1 a2 a3 a4 a5 a6 a7 = 0 := if_neg (fun hh => h hh.2.2.2.2.2.2.1)
theorem sum8_no7 {a0 a1 a2 a3 a4 a5 a6 a7 : Int} (h : ¬ Wt a7) : sum8 a0 a1 a2 a3 a4 a5 a6 a7 = 0 := if_neg (fun hh => h hh.2.2.2.2.2.2.2)
set_option maxRecDepth 20000 in
set_option maxHeartbeats 4000000 in
theorem sum_walk (a0 a1 a2 a3 a4 a5 a6 a7 : Int) (w : World) : Calls Try.prog 87 #[W8 a0 a1 a2 a3 a4 a5 a6 a7] w fun e w' => e = .returned (.int .i64 (sum8 a0 a1 a2 a3 a4 a5 a6 a7)) ∧ Below w.heap.size w w' := by
  have i0 : ∀ w, (Instr.index 110 (.agg #[.int .i64 a0, .int .i64 a1, .int .i64 a2, .int .i64 a3, .int .i64 a4, .int .i64 a5, .int .i64 a6, .int .i64 a7]) (.int .i64 0)).run Try.prog w = .ok (.int .i64 a0) w := fun _ => by kernel_rfl
  have i1 : ∀ w, (Instr.index 110 (.agg #[.int .i64 a0, .int .i64 a1, .int .i64 a2, .int .i64 a3, .int .i64 a4, .int .i64 a5, .int .i64 a6, .int .i64 a7]) (.int .i64 1)).run Try.prog w = .ok (.int .i64 a1) w := fun _ => by kernel_rfl
  have i2 : ∀ w, (Instr.index 110 (.agg #[.int .i64 a0, .int .i64 a1, .int .i64 a2, .int .i64 a3, .int .i64 a4, .int .i64 a5, .int .i64 a6, .int .i64 a7]) (.int .i64 2)).run Try.prog w = .ok (.int .i64 a2) w := fun _ => by kernel_rfl
  have i3 : ∀ w, (Instr.index 110 (.agg #[.int .i64 a0, .int .i64 a1, .int .i64 a2, .int .i64 a3, .int .i64 a4, .int .i64 a5, .int .i64 a6, .int .i64 a7]) (.int .i64 3)).run Try.prog w = .ok (.int .i64 a3) w := fun _ => by kernel_rfl
  have i4 : ∀ w, (Instr.index 110 (.agg #[.int .i64 a0, .int .i64 a1, .int .i64 a2, .int .i64 a3, .int .i64 a4, .int .i64 a5, .int .i64 a6, .int .i64 a7]) (.int .i64 4)).run Try.prog w = .ok (.int .i64 a4) w := fun _ => by kernel_rfl
  have i5 : ∀ w, (Instr.index 110 (.agg #[.int .i64 a0, .int .i64 a1, .int .i64 a2, .int .i64 a3, .int .i64 a4, .int .i64 a5, .int .i64 a6, .int .i64 a7]) (.int .i64 5)).run Try.prog w = .ok (.int .i64 a5) w := fun _ => by kernel_rfl
  have i6 : ∀ w, (Instr.index 110 (.agg #[.int .i64 a0, .int .i64 a1, .int .i64 a2, .int .i64 a3, .int .i64 a4, .int .i64 a5, .int .i64 a6, .int .i64 a7]) (.int .i64 6)).run Try.prog w = .ok (.int .i64 a6) w := fun _ => by kernel_rfl
  have i7 : ∀ w, (Instr.index 110 (.agg #[.int .i64 a0, .int .i64 a1, .int .i64 a2, .int .i64 a3, .int .i64 a4, .int .i64 a5, .int .i64 a6, .int .i64 a7]) (.int .i64 7)).run Try.prog w = .ok (.int .i64 a7) w := fun _ => by kernel_rfl
  obtain ⟨r, hr⟩ : ∃ r, r = sum8 a0 a1 a2 a3 a4 a5 a6 a7 := ⟨_, rfl⟩
  rw [← hr]
  have HR := Lib.hid hr
  clear hr
  go_enter Try.func87, Try.ntmps87
  go_wp2_with fail
  refine wp_loop_rounds 9 ?_
  by_cases g0 : Wt a0
  case neg =>
    have hr : r = 0 := by rw [HR.out]; exact sum8_no0 g0
    clear HR
    subst hr
    unfold Wt at g0
    rw [rounds_succ]
    go_wp2_with fail
    all_goals first
      | (exfalso; omega)
      | (go_ret; exact ⟨rfl, by repeat (first | exact Below.refl _ _ | apply bl_all)⟩)
  have p0 := g0.1
  have q0 := g0.2
  have n0 : ¬ a0 < 0 := by omega
  have m0 : ¬ a0 > 1000 := by omega
  rw [rounds_succ]
  go_wp2_with fail
  by_cases g1 : Wt a1
  case neg =>
    have hr : r = 0 := by rw [HR.out]; exact sum8_no1 g1
    clear HR
    subst hr
    unfold Wt at g1
    rw [rounds_succ]
    go_wp2_with fail
    all_goals first
      | (exfalso; omega)
      | (go_ret; exact ⟨rfl, by repeat (first | exact Below.refl _ _ | apply bl_all)⟩)
  have p1 := g1.1
  have q1 := g1.2
  have n1 : ¬ a1 < 0 := by omega
  have m1 : ¬ a1 > 1000 := by omega
  rw [rounds_succ]
  go_wp2_with fail
  by_cases g2 : Wt a2
  case neg =>
    have hr : r = 0 := by rw [HR.out]; exact sum8_no2 g2
    clear HR
    subst hr
    unfold Wt at g2
    rw [rounds_succ]
    go_wp2_with fail
    all_goals first
      | (exfalso; omega)
      | (go_ret; exact ⟨rfl, by repeat (first | exact Below.refl _ _ | apply bl_all)⟩)
  have p2 := g2.1
  have q2 := g2.2
  have n2 : ¬ a2 < 0 := by omega
  have m2 : ¬ a2 > 1000 := by omega
  rw [rounds_succ]
  go_wp2_with fail
  by_cases g3 : Wt a3
  case neg =>
    have hr : r = 0 := by rw [HR.out]; exact sum8_no3 g3
    clear HR
    subst hr
    unfold Wt at g3
    rw [rounds_succ]
    go_wp2_with fail
    all_goals first
      | (exfalso; omega)
      | (go_ret; exact ⟨rfl, by repeat (first | exact Below.refl _ _ | apply bl_all)⟩)
  have p3 := g3.1
  have q3 := g3.2
  have n3 : ¬ a3 < 0 := by omega
  have m3 : ¬ a3 > 1000 := by omega
  rw [rounds_succ]
  go_wp2_with fail
  by_cases g4 : Wt a4
  case neg =>
    have hr : r = 0 := by rw [HR.out]; exact sum8_no4 g4
    clear HR
    subst hr
    unfold Wt at g4
    rw [rounds_succ]
    go_wp2_with fail
    all_goals first
      | (exfalso; omega)
      | (go_ret; exact ⟨rfl, by repeat (first | exact Below.refl _ _ | apply bl_all)⟩)
  have p4 := g4.1
  have q4 := g4.2
  have n4 : ¬ a4 < 0 := by omega
  have m4 : ¬ a4 > 1000 := by omega
  rw [rounds_succ]
  go_wp2_with fail
  by_cases g5 : Wt a5
  case neg =>
    have hr : r = 0 := by rw [HR.out]; exact sum8_no5 g5
    clear HR
    subst hr
    unfold Wt at g5
    rw [rounds_succ]
    go_wp2_with fail
    all_goals first
      | (exfalso; omega)
      | (go_ret; exact ⟨rfl, by repeat (first | exact Below.refl _ _ | apply bl_all)⟩)
  have p5 := g5.1
  have q5 := g5.2
  have n5 : ¬ a5 < 0 := by omega
  have m5 : ¬ a5 > 1000 := by omega
  rw [rounds_succ]
  go_wp2_with fail
  by_cases g6 : Wt a6
  case neg =>
    have hr : r = 0 := by rw [HR.out]; exact sum8_no6 g6
    clear HR
    subst hr
    unfold Wt at g6
    rw [rounds_succ]
    go_wp2_with fail
    all_goals first
      | (exfalso; omega)
      | (go_ret; exact ⟨rfl, by repeat (first | exact Below.refl _ _ | apply bl_all)⟩)
  have p6 := g6.1
  have q6 := g6.2
  have n6 : ¬ a6 < 0 := by omega
  have m6 : ¬ a6 > 1000 := by omega
  rw [rounds_succ]
  go_wp2_with fail
  by_cases g7 : Wt a7
  case neg =>
    have hr : r = 0 := by rw [HR.out]; exact sum8_no7 g7
    clear HR
    subst hr
    unfold Wt at g7
    rw [rounds_succ]
    go_wp2_with fail
    all_goals first
      | (exfalso; omega)
      | (go_ret; exact ⟨rfl, by repeat (first | exact Below.refl _ _ | apply bl_all)⟩)
  have p7 := g7.1
  have q7 := g7.2
  have n7 : ¬ a7 < 0 := by omega
  have m7 : ¬ a7 > 1000 := by omega
  rw [rounds_succ]
  go_wp2_with fail
  rw [rounds_succ]
  go_wp2_with fail
  go_ret
  refine ⟨ret_i ?_, by repeat (first | exact Below.refl _ _ | apply bl_all)⟩
  rw [HR.out]
  unfold sum8
  rw [if_pos ⟨g0, g1, g2, g3, g4, g5, g6, g7⟩]
set_option maxRecDepth 20000 in
set_option maxHeartbeats 4000000 in
theorem rsum_walk (a0 a1 a2 a3 a4 a5 a6 a7 : Int) (w : World) : Calls Try.prog 54 #[W8 a0 a1 a2 a3 a4 a5 a6 a7] w fun e w' => e = .returned (.int .i64 (sum8 a0 a1 a2 a3 a4 a5 a6 a7)) ∧ Below w.heap.size w w' := by
  have i0 : ∀ w, (Instr.index 93 (.agg #[.int .i64 a0, .int .i64 a1, .int .i64 a2, .int .i64 a3, .int .i64 a4, .int .i64 a5, .int .i64 a6, .int .i64 a7]) (.int .i64 0)).run Try.prog w = .ok (.int .i64 a0) w := fun _ => by kernel_rfl
  have i1 : ∀ w, (Instr.index 93 (.agg #[.int .i64 a0, .int .i64 a1, .int .i64 a2, .int .i64 a3, .int .i64 a4, .int .i64 a5, .int .i64 a6, .int .i64 a7]) (.int .i64 1)).run Try.prog w = .ok (.int .i64 a1) w := fun _ => by kernel_rfl
  have i2 : ∀ w, (Instr.index 93 (.agg #[.int .i64 a0, .int .i64 a1, .int .i64 a2, .int .i64 a3, .int .i64 a4, .int .i64 a5, .int .i64 a6, .int .i64 a7]) (.int .i64 2)).run Try.prog w = .ok (.int .i64 a2) w := fun _ => by kernel_rfl
  have i3 : ∀ w, (Instr.index 93 (.agg #[.int .i64 a0, .int .i64 a1, .int .i64 a2, .int .i64 a3, .int .i64 a4, .int .i64 a5, .int .i64 a6, .int .i64 a7]) (.int .i64 3)).run Try.prog w = .ok (.int .i64 a3) w := fun _ => by kernel_rfl
  have i4 : ∀ w, (Instr.index 93 (.agg #[.int .i64 a0, .int .i64 a1, .int .i64 a2, .int .i64 a3, .int .i64 a4, .int .i64 a5, .int .i64 a6, .int .i64 a7]) (.int .i64 4)).run Try.prog w = .ok (.int .i64 a4) w := fun _ => by kernel_rfl
  have i5 : ∀ w, (Instr.index 93 (.agg #[.int .i64 a0, .int .i64 a1, .int .i64 a2, .int .i64 a3, .int .i64 a4, .int .i64 a5, .int .i64 a6, .int .i64 a7]) (.int .i64 5)).run Try.prog w = .ok (.int .i64 a5) w := fun _ => by kernel_rfl
  have i6 : ∀ w, (Instr.index 93 (.agg #[.int .i64 a0, .int .i64 a1, .int .i64 a2, .int .i64 a3, .int .i64 a4, .int .i64 a5, .int .i64 a6, .int .i64 a7]) (.int .i64 6)).run Try.prog w = .ok (.int .i64 a6) w := fun _ => by kernel_rfl
  have i7 : ∀ w, (Instr.index 93 (.agg #[.int .i64 a0, .int .i64 a1, .int .i64 a2, .int .i64 a3, .int .i64 a4, .int .i64 a5, .int .i64 a6, .int .i64 a7]) (.int .i64 7)).run Try.prog w = .ok (.int .i64 a7) w := fun _ => by kernel_rfl
  obtain ⟨r, hr⟩ : ∃ r, r = sum8 a0 a1 a2 a3 a4 a5 a6 a7 := ⟨_, rfl⟩
  rw [← hr]
  have HR := Lib.hid hr
  clear hr
  go_enter Try.func54, Try.ntmps54
  go_wp2_with fail
  refine wp_loop_rounds 9 ?_
  by_cases g0 : Wt a0
  case neg =>
    have hr : r = 0 := by rw [HR.out]; exact sum8_no0 g0
    clear HR
    subst hr
    unfold Wt at g0
    rw [rounds_succ]
    go_wp2_with fail
    all_goals first
      | (exfalso; omega)
      | (go_ret; exact ⟨rfl, by repeat (first | exact Below.refl _ _ | apply bl_all)⟩)
  have p0 := g0.1
  have q0 := g0.2
  have n0 : ¬ a0 < 0 := by omega
  have m0 : ¬ a0 > 1000 := by omega
  rw [rounds_succ]
  go_wp2_with fail
  by_cases g1 : Wt a1
  case neg =>
    have hr : r = 0 := by rw [HR.out]; exact sum8_no1 g1
    clear HR
    subst hr
    unfold Wt at g1
    rw [rounds_succ]
    go_wp2_with fail
    all_goals first
      | (exfalso; omega)
      | (go_ret; exact ⟨rfl, by repeat (first | exact Below.refl _ _ | apply bl_all)⟩)
  have p1 := g1.1
  have q1 := g1.2
  have n1 : ¬ a1 < 0 := by omega
  have m1 : ¬ a1 > 1000 := by omega
  rw [rounds_succ]
  go_wp2_with fail
  by_cases g2 : Wt a2
  case neg =>
    have hr : r = 0 := by rw [HR.out]; exact sum8_no2 g2
    clear HR
    subst hr
    unfold Wt at g2
    rw [rounds_succ]
    go_wp2_with fail
    all_goals first
      | (exfalso; omega)
      | (go_ret; exact ⟨rfl, by repeat (first | exact Below.refl _ _ | apply bl_all)⟩)
  have p2 := g2.1
  have q2 := g2.2
  have n2 : ¬ a2 < 0 := by omega
  have m2 : ¬ a2 > 1000 := by omega
  rw [rounds_succ]
  go_wp2_with fail
  by_cases g3 : Wt a3
  case neg =>
    have hr : r = 0 := by rw [HR.out]; exact sum8_no3 g3
    clear HR
    subst hr
    unfold Wt at g3
    rw [rounds_succ]
    go_wp2_with fail
    all_goals first
      | (exfalso; omega)
      | (go_ret; exact ⟨rfl, by repeat (first | exact Below.refl _ _ | apply bl_all)⟩)
  have p3 := g3.1
  have q3 := g3.2
  have n3 : ¬ a3 < 0 := by omega
  have m3 : ¬ a3 > 1000 := by omega
  rw [rounds_succ]
  go_wp2_with fail
  by_cases g4 : Wt a4
  case neg =>
    have hr : r = 0 := by rw [HR.out]; exact sum8_no4 g4
    clear HR
    subst hr
    unfold Wt at g4
    rw [rounds_succ]
    go_wp2_with fail
    all_goals first
      | (exfalso; omega)
      | (go_ret; exact ⟨rfl, by repeat (first | exact Below.refl _ _ | apply bl_all)⟩)
  have p4 := g4.1
  have q4 := g4.2
  have n4 : ¬ a4 < 0 := by omega
  have m4 : ¬ a4 > 1000 := by omega
  rw [rounds_succ]
  go_wp2_with fail
  by_cases g5 : Wt a5
  case neg =>
    have hr : r = 0 := by rw [HR.out]; exact sum8_no5 g5
    clear HR
    subst hr
    unfold Wt at g5
    rw [rounds_succ]
    go_wp2_with fail
    all_goals first
      | (exfalso; omega)
      | (go_ret; exact ⟨rfl, by repeat (first | exact Below.refl _ _ | apply bl_all)⟩)
  have p5 := g5.1
  have q5 := g5.2
  have n5 : ¬ a5 < 0 := by omega
  have m5 : ¬ a5 > 1000 := by omega
  rw [rounds_succ]
  go_wp2_with fail
  by_cases g6 : Wt a6
  case neg =>
    have hr : r = 0 := by rw [HR.out]; exact sum8_no6 g6
    clear HR
    subst hr
    unfold Wt at g6
    rw [rounds_succ]
    go_wp2_with fail
    all_goals first
      | (exfalso; omega)
      | (go_ret; exact ⟨rfl, by repeat (first | exact Below.refl _ _ | apply bl_all)⟩)
  have p6 := g6.1
  have q6 := g6.2
  have n6 : ¬ a6 < 0 := by omega
  have m6 : ¬ a6 > 1000 := by omega
  rw [rounds_succ]
  go_wp2_with fail
  by_cases g7 : Wt a7
  case neg =>
    have hr : r = 0 := by rw [HR.out]; exact sum8_no7 g7
    clear HR
    subst hr
    unfold Wt at g7
    rw [rounds_succ]
    go_wp2_with fail
    all_goals first
      | (exfalso; omega)
      | (go_ret; exact ⟨rfl, by repeat (first | exact Below.refl _ _ | apply bl_all)⟩)
  have p7 := g7.1
  have q7 := g7.2
  have n7 : ¬ a7 < 0 := by omega
  have m7 : ¬ a7 > 1000 := by omega
  rw [rounds_succ]
  go_wp2_with fail
  rw [rounds_succ]
  go_wp2_with fail
  go_ret
  refine ⟨ret_i ?_, by repeat (first | exact Below.refl _ _ | apply bl_all)⟩
  rw [HR.out]
  unfold sum8
  rw [if_pos ⟨g0, g1, g2, g3, g4, g5, g6, g7⟩]
set_option maxRecDepth 20000 in
set_option maxHeartbeats 4000000 in
theorem kind_walk (a0 a1 a2 a3 a4 a5 a6 a7 at_ : Int) (w : World) (h : All8 a0 a1 a2 a3 a4 a5 a6 a7) (h0 : 0 ≤ at_) (h1 : at_ < a0 + a1 + a2 + a3 + a4 + a5 + a6 + a7) : Calls Try.prog 88 #[W8 a0 a1 a2 a3 a4 a5 a6 a7, .int .i64 at_] w fun e w' => e = .returned (.int .i64 (kind8 a0 a1 a2 a3 a4 a5 a6 a7 at_)) ∧ Below w.heap.size w w' := by
  have i0 : ∀ w, (Instr.index 110 (.agg #[.int .i64 a0, .int .i64 a1, .int .i64 a2, .int .i64 a3, .int .i64 a4, .int .i64 a5, .int .i64 a6, .int .i64 a7]) (.int .i64 0)).run Try.prog w = .ok (.int .i64 a0) w := fun _ => by kernel_rfl
  have i1 : ∀ w, (Instr.index 110 (.agg #[.int .i64 a0, .int .i64 a1, .int .i64 a2, .int .i64 a3, .int .i64 a4, .int .i64 a5, .int .i64 a6, .int .i64 a7]) (.int .i64 1)).run Try.prog w = .ok (.int .i64 a1) w := fun _ => by kernel_rfl
  have i2 : ∀ w, (Instr.index 110 (.agg #[.int .i64 a0, .int .i64 a1, .int .i64 a2, .int .i64 a3, .int .i64 a4, .int .i64 a5, .int .i64 a6, .int .i64 a7]) (.int .i64 2)).run Try.prog w = .ok (.int .i64 a2) w := fun _ => by kernel_rfl
  have i3 : ∀ w, (Instr.index 110 (.agg #[.int .i64 a0, .int .i64 a1, .int .i64 a2, .int .i64 a3, .int .i64 a4, .int .i64 a5, .int .i64 a6, .int .i64 a7]) (.int .i64 3)).run Try.prog w = .ok (.int .i64 a3) w := fun _ => by kernel_rfl
  have i4 : ∀ w, (Instr.index 110 (.agg #[.int .i64 a0, .int .i64 a1, .int .i64 a2, .int .i64 a3, .int .i64 a4, .int .i64 a5, .int .i64 a6, .int .i64 a7]) (.int .i64 4)).run Try.prog w = .ok (.int .i64 a4) w := fun _ => by kernel_rfl
  have i5 : ∀ w, (Instr.index 110 (.agg #[.int .i64 a0, .int .i64 a1, .int .i64 a2, .int .i64 a3, .int .i64 a4, .int .i64 a5, .int .i64 a6, .int .i64 a7]) (.int .i64 5)).run Try.prog w = .ok (.int .i64 a5) w := fun _ => by kernel_rfl
  have i6 : ∀ w, (Instr.index 110 (.agg #[.int .i64 a0, .int .i64 a1, .int .i64 a2, .int .i64 a3, .int .i64 a4, .int .i64 a5, .int .i64 a6, .int .i64 a7]) (.int .i64 6)).run Try.prog w = .ok (.int .i64 a6) w := fun _ => by kernel_rfl
  have i7 : ∀ w, (Instr.index 110 (.agg #[.int .i64 a0, .int .i64 a1, .int .i64 a2, .int .i64 a3, .int .i64 a4, .int .i64 a5, .int .i64 a6, .int .i64 a7]) (.int .i64 7)).run Try.prog w = .ok (.int .i64 a7) w := fun _ => by kernel_rfl
  obtain ⟨⟨p0, q0⟩, ⟨p1, q1⟩, ⟨p2, q2⟩, ⟨p3, q3⟩, ⟨p4, q4⟩, ⟨p5, q5⟩, ⟨p6, q6⟩, ⟨p7, q7⟩⟩ := h
  obtain ⟨r, hr⟩ : ∃ r, r = kind8 a0 a1 a2 a3 a4 a5 a6 a7 at_ := ⟨_, rfl⟩
  rw [← hr]
  have HR := Lib.hid hr
  clear hr
  go_enter Try.func88, Try.ntmps88
  go_wp2_with fail
  refine wp_loop_rounds 9 ?_
  by_cases g0 : at_ < a0
  case pos =>
    have hr : r = 0 := by rw [HR.out]; unfold kind8; rw [if_pos g0]
    clear HR
    subst hr
    rw [rounds_succ]
    go_wp2_with fail
    all_goals first
      | (exfalso; omega)
      | (go_ret; exact ⟨rfl, by repeat (first | exact Below.refl _ _ | apply bl_all)⟩)
  rw [rounds_succ]
  go_wp2_with fail
  by_cases g1 : at_ - a0 < a1
  case pos =>
    have hr : r = 1 := by rw [HR.out]; unfold kind8; rw [if_neg (show ¬ (at_ < a0) by omega), if_pos g1]
    clear HR
    subst hr
    rw [rounds_succ]
    go_wp2_with fail
    all_goals first
      | (exfalso; omega)
      | (go_ret; exact ⟨rfl, by repeat (first | exact Below.refl _ _ | apply bl_all)⟩)
  rw [rounds_succ]
  go_wp2_with fail
  by_cases g2 : at_ - a0 - a1 < a2
  case pos =>
    have hr : r = 2 := by rw [HR.out]; unfold kind8; rw [if_neg (show ¬ (at_ < a0) by omega), if_neg (show ¬ (at_ - a0 < a1) by omega), if_pos g2]
    clear HR
    subst hr
    rw [rounds_succ]
    go_wp2_with fail
    all_goals first
      | (exfalso; omega)
      | (go_ret; exact ⟨rfl, by repeat (first | exact Below.refl _ _ | apply bl_all)⟩)
  rw [rounds_succ]
  go_wp2_with fail
  by_cases g3 : at_ - a0 - a1 - a2 < a3
  case pos =>
    have hr : r = 3 := by rw [HR.out]; unfold kind8; rw [if_neg (show ¬ (at_ < a0) by omega), if_neg (show ¬ (at_ - a0 < a1) by omega), if_neg (show ¬ (at_ - a0 - a1 < a2) by omega), if_pos g3]
    clear HR
    subst hr
    rw [rounds_succ]
    go_wp2_with fail
    all_goals first
      | (exfalso; omega)
      | (go_ret; exact ⟨rfl, by repeat (first | exact Below.refl _ _ | apply bl_all)⟩)
  rw [rounds_succ]
  go_wp2_with fail
  by_cases g4 : at_ - a0 - a1 - a2 - a3 < a4
  case pos =>
    have hr : r = 4 := by rw [HR.out]; unfold kind8; rw [if_neg (show ¬ (at_ < a0) by omega), if_neg (show ¬ (at_ - a0 < a1) by omega), if_neg (show ¬ (at_ - a0 - a1 < a2) by omega), if_neg (show ¬ (at_ - a0 - a1 - a2 < a3) by omega), if_pos g4]
    clear HR
    subst hr
    rw [rounds_succ]
    go_wp2_with fail
    all_goals first
      | (exfalso; omega)
      | (go_ret; exact ⟨rfl, by repeat (first | exact Below.refl _ _ | apply bl_all)⟩)
  rw [rounds_succ]
  go_wp2_with fail
  by_cases g5 : at_ - a0 - a1 - a2 - a3 - a4 < a5
  case pos =>
    have hr : r = 5 := by rw [HR.out]; unfold kind8; rw [if_neg (show ¬ (at_ < a0) by omega), if_neg (show ¬ (at_ - a0 < a1) by omega), if_neg (show ¬ (at_ - a0 - a1 < a2) by omega), if_neg (show ¬ (at_ - a0 - a1 - a2 < a3) by omega), if_neg (show ¬ (at_ - a0 - a1 - a2 - a3 < a4) by omega), if_pos g5]
    clear HR
    subst hr
    rw [rounds_succ]
    go_wp2_with fail
    all_goals first
      | (exfalso; omega)
      | (go_ret; exact ⟨rfl, by repeat (first | exact Below.refl _ _ | apply bl_all)⟩)
  rw [rounds_succ]
  go_wp2_with fail
  by_cases g6 : at_ - a0 - a1 - a2 - a3 - a4 - a5 < a6
  case pos =>
    have hr : r = 6 := by rw [HR.out]; unfold kind8; rw [if_neg (show ¬ (at_ < a0) by omega), if_neg (show ¬ (at_ - a0 < a1) by omega), if_neg (show ¬ (at_ - a0 - a1 < a2) by omega), if_neg (show ¬ (at_ - a0 - a1 - a2 < a3) by omega), if_neg (show ¬ (at_ - a0 - a1 - a2 - a3 < a4) by omega), if_neg (show ¬ (at_ - a0 - a1 - a2 - a3 - a4 < a5) by omega), if_pos g6]
    clear HR
    subst hr
    rw [rounds_succ]
    go_wp2_with fail
    all_goals first
      | (exfalso; omega)
      | (go_ret; exact ⟨rfl, by repeat (first | exact Below.refl _ _ | apply bl_all)⟩)
  rw [rounds_succ]
  go_wp2_with fail
  by_cases g7 : at_ - a0 - a1 - a2 - a3 - a4 - a5 - a6 < a7
  case pos =>
    have hr : r = 7 := by rw [HR.out]; unfold kind8; rw [if_neg (show ¬ (at_ < a0) by omega), if_neg (show ¬ (at_ - a0 < a1) by omega), if_neg (show ¬ (at_ - a0 - a1 < a2) by omega), if_neg (show ¬ (at_ - a0 - a1 - a2 < a3) by omega), if_neg (show ¬ (at_ - a0 - a1 - a2 - a3 < a4) by omega), if_neg (show ¬ (at_ - a0 - a1 - a2 - a3 - a4 < a5) by omega), if_neg (show ¬ (at_ - a0 - a1 - a2 - a3 - a4 - a5 < a6) by omega), if_pos g7]
    clear HR
    subst hr
    rw [rounds_succ]
    go_wp2_with fail
    all_goals first
      | (exfalso; omega)
      | (go_ret; exact ⟨rfl, by repeat (first | exact Below.refl _ _ | apply bl_all)⟩)
  exfalso
  omega
end Go.Proofs.Ytoobbolaoldacaa.DiceW
