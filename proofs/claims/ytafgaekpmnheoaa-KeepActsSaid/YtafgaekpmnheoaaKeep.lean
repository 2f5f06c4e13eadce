/-
  The contracts of package keep and of its reference: each function steps as Go does; memory: the one block of each.
-/
import Derived.Test.YtafgaekpmnheoaaProg
import Derived.Test.YtafgaekpmnheoaaY
import Derived.WalkKit
import Derived.WalkLawsBesides
import Derived.WalkSpells
import Derived.Deep.QuietTactic
import Derived.BigQuiet
import Derived.Deep.RegionWith
import Derived.Outline
import Derived.Deep.RegionHeld3
import Derived.StillTailTactics
import Derived.Lib.Hide
namespace Go.Proofs.Ytafgaekpmnheoaa
open Go.RowKit Go.Proofs.YtafgaekpmnheoaaW.PrintWords Go.Proofs.YtafgaekpmnheoaaW.PrintMore
set_option linter.unusedVariables false

theorem kis_yes (g : Nat) (p : Int) (w : World) (hp : 0 < p) (h : w.cell? ⟨g, 0, none⟩ = some (.int .i64 p)) :
    Calls Try.prog 50 #[.pointer (some ⟨g, 0, none⟩)] w fun e w' => e = .returned (.bool true) ∧ w = w' := by
  go_enter Try.func50, Try.ntmps50
  go_wp2
  go_ret
  exact ⟨rfl, rfl⟩
theorem kis_none (g : Nat) (w : World) (h : w.cell? ⟨g, 0, none⟩ = some (.int .i64 0)) :
    Calls Try.prog 50 #[.pointer (some ⟨g, 0, none⟩)] w fun e w' => e = .returned (.bool false) ∧ w = w' := by
  go_enter Try.func50, Try.ntmps50
  go_wp2
  go_ret
  exact ⟨rfl, rfl⟩
theorem kis_nil (w : World) : Calls Try.prog 50 #[.pointer none] w fun e w' => e = .returned (.bool false) ∧ w = w' := by
  go_enter Try.func50, Try.ntmps50
  go_wp2
  go_ret
  exact ⟨rfl, rfl⟩
theorem ktick1 (a : Int) (w : World) (h0 : 0 ≤ a) (h1 : a ≤ 100) : Calls Try.prog 48 #[.int .i64 a] w fun e w' => e = .returned (.int .i64 (a + 1)) ∧ w = w' := by
  go_enter Try.func48, Try.ntmps48
  go_wp2
  go_ret
  exact ⟨rfl, rfl⟩
theorem kheard1 (a : Int) (w : World) : Calls Try.prog 49 #[.int .i64 a] w fun e w' => e = .returned (.int .i64 0) ∧ w = w' := by
  go_enter Try.func49, Try.ntmps49
  go_wp2
  go_ret
  exact ⟨rfl, rfl⟩
/-- the age behind a tick -/
def tickB (p a : Int) : Int := if a < p then a + 1 else p
def setAge (w : World) (g : Nat) (n : Int) : World := w.drew.setCell ⟨g, 1, none⟩ (.int .i64 n)


set_option maxHeartbeats 1000000 in
theorem kturn_tick (g : Nat) (p a : Int) (w : World) (hp : 1 ≤ p) (hp2 : p ≤ 100) (ha : 0 ≤ a) (ha2 : a ≤ p) (hlt : a < p) (h0 : w.cell? ⟨g, 0, none⟩ = some (.int .i64 p)) (h1 : w.cell? ⟨g, 1, none⟩ = some (.int .i64 a)) (hf : w.frozen? ⟨g, 1, none⟩ = false) :
    Calls Try.prog 47 #[.pointer (some ⟨g, 0, none⟩), .func (.func 48) #[] #[]] w fun e w' => e = .returned (.tuple #[]) ∧ setAge w g (a + 1) = w' := by
  go_enter Try.func47, Try.ntmps47
  go_wp2_with fail
  refine (kis_yes g p _ (by omega) h0).mono ?_
  rintro e w' ⟨rfl, rfl⟩
  go_wp2_with fail
  go_still_tail 14, (by kernel_rfl)
  still_call (turned (ktick1 a _ ha (by omega)))
  repeat still_step
  refine wpStill_nil ?_
  change wpList _ _ _ _ _ w.drew
  generalize hw2 : w.drew = w2
  have k1 : w2.cell? ⟨g, 1, none⟩ = some (.int .i64 a) := by rw [← hw2]; exact h1
  have kf : w2.frozen? ⟨g, 1, none⟩ = false := by rw [← hw2]; exact hf
  have hmin : ¬ p < a + 1 := by omega
  have HW := Lib.hid hw2
  clear hw2
  go_wp2
  go_end0
  exact ⟨rfl, by rw [← HW.out]; rfl⟩

set_option maxHeartbeats 1000000 in
theorem kturn_full (g : Nat) (p a : Int) (w : World) (hp : 1 ≤ p) (hp2 : p ≤ 100) (ha : 0 ≤ a) (ha2 : a ≤ p) (hlt : ¬ a < p) (h0 : w.cell? ⟨g, 0, none⟩ = some (.int .i64 p)) (h1 : w.cell? ⟨g, 1, none⟩ = some (.int .i64 a)) (hf : w.frozen? ⟨g, 1, none⟩ = false) :
    Calls Try.prog 47 #[.pointer (some ⟨g, 0, none⟩), .func (.func 48) #[] #[]] w fun e w' => e = .returned (.tuple #[]) ∧ setAge w g p = w' := by
  go_enter Try.func47, Try.ntmps47
  go_wp2_with fail
  refine (kis_yes g p _ (by omega) h0).mono ?_
  rintro e w' ⟨rfl, rfl⟩
  go_wp2_with fail
  go_still_tail 14, (by kernel_rfl)
  still_call (turned (ktick1 a _ ha (by omega)))
  repeat still_step
  refine wpStill_nil ?_
  change wpList _ _ _ _ _ w.drew
  generalize hw2 : w.drew = w2
  have k1 : w2.cell? ⟨g, 1, none⟩ = some (.int .i64 a) := by rw [← hw2]; exact h1
  have kf : w2.frozen? ⟨g, 1, none⟩ = false := by rw [← hw2]; exact hf
  have hmin : p < a + 1 := by omega
  have HW := Lib.hid hw2
  clear hw2
  go_wp2
  go_end0
  exact ⟨rfl, by rw [← HW.out]; rfl⟩

set_option maxHeartbeats 1000000 in
theorem kturn_heard (g : Nat) (p a : Int) (w : World) (hp : 1 ≤ p) (hp2 : p ≤ 100) (ha : 0 ≤ a) (ha2 : a ≤ p)  (h0 : w.cell? ⟨g, 0, none⟩ = some (.int .i64 p)) (h1 : w.cell? ⟨g, 1, none⟩ = some (.int .i64 a)) (hf : w.frozen? ⟨g, 1, none⟩ = false) :
    Calls Try.prog 47 #[.pointer (some ⟨g, 0, none⟩), .func (.func 49) #[] #[]] w fun e w' => e = .returned (.tuple #[]) ∧ setAge w g 0 = w' := by
  go_enter Try.func47, Try.ntmps47
  go_wp2_with fail
  refine (kis_yes g p _ (by omega) h0).mono ?_
  rintro e w' ⟨rfl, rfl⟩
  go_wp2_with fail
  go_still_tail 14, (by kernel_rfl)
  still_call (turned (kheard1 a _))
  repeat still_step
  refine wpStill_nil ?_
  change wpList _ _ _ _ _ w.drew
  generalize hw2 : w.drew = w2
  have k1 : w2.cell? ⟨g, 1, none⟩ = some (.int .i64 a) := by rw [← hw2]; exact h1
  have kf : w2.frozen? ⟨g, 1, none⟩ = false := by rw [← hw2]; exact hf
  have hmin : ¬ p < 0 := by omega
  have HW := Lib.hid hw2
  clear hw2
  go_wp2
  go_end0
  exact ⟨rfl, by rw [← HW.out]; rfl⟩

/-- the block of a Keep -/
def KeepAt (w : World) (g : Nat) (p a : Int) : Prop := w.heap[g]? = some (.cells #[.int .i64 p, .int .i64 a] 47 (0, 0))
theorem keepAt_set {w : World} {g : Nat} {p a : Int} (h : KeepAt w g p a) (n : Int) : KeepAt (setAge w g n) g p n := by
  have := set_at (w := w.drew) (g := g) h 1 (.int .i64 n)
  exact this
theorem setAge_far {w : World} {g q : Nat} {o : Obj} (h : w.heap[q]? = some o) (n : Int) (hq : q ≠ g) : (setAge w g n).heap[q]? = some o := far_at (w := w.drew) h hq _
theorem setAge_below {B : Nat} {w0 w : World} (h : Below B w0 w) {g : Nat} (hg : B ≤ g) (n : Int) : Below B w0 (setAge w g n) := bl_set (bl_drew h 1) hg _
/-- ticks -/
theorem Tick_any (g : Nat) (p a : Int) (w : World) (hp : 1 ≤ p) (hp2 : p ≤ 100) (ha : 0 ≤ a) (ha2 : a ≤ p) (h : KeepAt w g p a) :
    Calls Try.prog 23 #[.pointer (some ⟨g, 0, none⟩)] w fun e w' => e = .returned (.tuple #[]) ∧ setAge w g (tickB p a) = w' := by
  have D : ∀ w, KeepAt w g p a → Calls Try.prog 47 #[.pointer (some ⟨g, 0, none⟩), .func (.func 48) #[] #[]] w fun e w' => e = .returned (.tuple #[]) ∧ setAge w g (tickB p a) = w' := by
    intro w h
    by_cases hlt : a < p
    · have := kturn_tick g p a w hp hp2 ha ha2 hlt (blk_cell h 0) (blk_cell h 1) (blk_frozen h 1)
      rwa [show tickB p a = a + 1 by simp [tickB, hlt]]
    · have := kturn_full g p a w hp hp2 ha ha2 (by omega) (blk_cell h 0) (blk_cell h 1) (blk_frozen h 1)
      rwa [show tickB p a = p by simp [tickB, hlt]]
  go_enter Try.func23, Try.ntmps23
  go_wp2_with fail
  refine (D _ h).mono ?_
  rintro e w' ⟨rfl, rfl⟩
  go_wp2_with fail
  go_end0
  exact ⟨rfl, rfl⟩
theorem Heard_any (g : Nat) (p a : Int) (w : World) (hp : 1 ≤ p) (hp2 : p ≤ 100) (ha : 0 ≤ a) (ha2 : a ≤ p) (h : KeepAt w g p a) :
    Calls Try.prog 25 #[.pointer (some ⟨g, 0, none⟩)] w fun e w' => e = .returned (.tuple #[]) ∧ setAge w g 0 = w' := by
  have D := kturn_heard g p a w hp hp2 ha ha2 (blk_cell h 0) (blk_cell h 1) (blk_frozen h 1)
  go_enter Try.func25, Try.ntmps25
  go_wp2_with fail
  refine D.mono ?_
  rintro e w' ⟨rfl, rfl⟩
  go_wp2_with fail
  go_end0
  exact ⟨rfl, rfl⟩
theorem Age_any (g : Nat) (p a : Int) (w : World) (hp : 1 ≤ p) (h : KeepAt w g p a) :
    Calls Try.prog 26 #[.pointer (some ⟨g, 0, none⟩)] w fun e w' => e = .returned (.int .i64 a) ∧ w = w' := by
  have h0 : w.cell? ⟨g, 0, none⟩ = some (.int .i64 p) := blk_cell h 0
  have h1 : w.cell? ⟨g, 1, none⟩ = some (.int .i64 a) := blk_cell h 1
  go_enter Try.func26, Try.ntmps26
  go_wp2_with (go_at_call 50; refine (kis_yes _ _ _ (by omega) h0).mono ?_; rintro e w' ⟨rfl, rfl⟩)
  go_ret
  exact ⟨rfl, rfl⟩
theorem Alive_any (g : Nat) (p a : Int) (w : World) (hp : 1 ≤ p) (h : KeepAt w g p a) :
    Calls Try.prog 27 #[.pointer (some ⟨g, 0, none⟩)] w fun e w' => e = .returned (.bool (decide (a < p))) ∧ Drawn0 w w' := by
  have h0 : w.cell? ⟨g, 0, none⟩ = some (.int .i64 p) := blk_cell h 0
  have h1 : w.cell? ⟨g, 1, none⟩ = some (.int .i64 a) := blk_cell h 1
  go_enter Try.func27, Try.ntmps27
  go_wp2_with fail
  go_region_with (go_at_call 50; refine (kis_yes _ p _ (by omega) (by go_simp)).mono ?_; rintro e w2 ⟨rfl, rfl⟩)
  all_goals go_wp2_with fail
  all_goals go_ret
  all_goals exact ⟨by first | rfl | (go_simp; done) | (go_simp; trace_state; sorry), 1, rfl⟩
end Go.Proofs.Ytafgaekpmnheoaa
