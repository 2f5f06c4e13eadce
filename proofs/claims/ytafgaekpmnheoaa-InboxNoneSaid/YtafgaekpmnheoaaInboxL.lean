/-
  The example that each statement of layer 20 plays.
-/
import Derived.Test.YtafgaekpmnheoaaInbox
import Derived.Below
namespace Go.Proofs.Ytafgaekpmnheoaa
open Go.RowKit

theorem lives20 (w : World) : Calls Try.prog 15 #[] w fun e w' => e = .returned (.bool true) ∧ Below w.heap.size w w' := by
  go_enter Try.func15, Try.ntmps15
  go_wp2_with fail
  refine (New_any _).mono ?_
  rintro e w' ⟨rfl, rfl⟩
  go_wp2_with fail
  refine (Take_no _ 0 2 _ (by omega) (by go_simp) (by go_simp) (by decide)).mono ?_
  rintro e w' ⟨rfl, rfl⟩
  go_wp2_with fail
  refine (Take_yes _ 0 1 _ (by omega) (by go_simp) (by go_simp) (by go_simp) (by decide)).mono ?_
  rintro e w' ⟨rfl, rfl⟩
  unfold putN
  go_wp2_with fail
  refine (Take_no _ 1 1 _ (by omega) (by go_simp) (by go_simp) (by decide)).mono ?_
  rintro e w' ⟨rfl, rfl⟩
  go_wp2_with fail
  refine (Take_yes _ 1 2 _ (by omega) (by go_simp) (by go_simp) (by go_simp) (by decide)).mono ?_
  rintro e w' ⟨rfl, rfl⟩
  unfold putN
  go_wp2_with fail
  refine (Ack_any _ 2 _ (by go_simp) (by go_simp)).mono ?_
  rintro e w' ⟨rfl, rfl⟩
  go_wp2_with fail
  go_ret
  exact ⟨rfl, (Below.refl _ w).alloc (Nat.le_refl _) _⟩
end Go.Proofs.Ytafgaekpmnheoaa
