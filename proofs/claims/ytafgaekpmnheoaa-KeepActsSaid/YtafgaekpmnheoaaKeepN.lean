/-
  Contracts of New, of the reference's methods, and the example that each statement of layer 21 plays.
-/
import Derived.Test.YtafgaekpmnheoaaKeep
namespace Go.Proofs.Ytafgaekpmnheoaa
open Go.RowKit Go.Proofs.YtafgaekpmnheoaaW.PrintWords Go.Proofs.YtafgaekpmnheoaaW.PrintMore
set_option linter.unusedVariables false
theorem New_yes (p : Int) (w : World) (h1 : 1 ≤ p) (h2 : p ≤ 100) :
    Calls Try.prog 21 #[.int .i64 p] w fun e w' => e = .returned (.tuple #[.pointer (some ⟨w.heap.size, 0, none⟩), .int .i64 0]) ∧ w.alloc (.cells #[.int .i64 p, .int .i64 0] 47) = w' := by
  have c1 : ¬ p < 1 := by omega
  have c2 : ¬ 100 < p := by omega
  go_enter Try.func21, Try.ntmps21
  go_wp2
  go_ret2
  exact ⟨rfl, rfl⟩
theorem New_no (p : Int) (w : World) (h : p < 1 ∨ 100 < p) :
    Calls Try.prog 21 #[.int .i64 p] w fun e w' => e = .returned (.tuple #[.pointer none, .int .i64 2]) ∧ w = w' := by
  by_cases c1 : p < 1
  · go_enter Try.func21, Try.ntmps21
    go_wp2
    go_ret2
    exact ⟨rfl, rfl⟩
  · have c2 : 100 < p := by omega
    go_enter Try.func21, Try.ntmps21
    go_wp2
    go_ret2
    exact ⟨rfl, rfl⟩
theorem RNew_yes (p : Int) (w : World) (h1 : 1 ≤ p) (h2 : p ≤ 100) :
    Calls Try.prog 22 #[.int .i64 p] w fun e w' => e = .returned (.tuple #[.pointer (some ⟨w.heap.size, 0, none⟩), .int .i64 0]) ∧ w.alloc (.cells #[.int .i64 0, .int .i64 p] 44) = w' := by
  have c1 : ¬ p < 1 := by omega
  have c2 : ¬ 100 < p := by omega
  go_enter Try.func22, Try.ntmps22
  go_wp2
  go_ret2
  exact ⟨rfl, rfl⟩
theorem RNew_no (p : Int) (w : World) (h : p < 1 ∨ 100 < p) :
    Calls Try.prog 22 #[.int .i64 p] w fun e w' => e = .returned (.tuple #[.pointer none, .int .i64 2]) ∧ w = w' := by
  by_cases c1 : p < 1
  · go_enter Try.func22, Try.ntmps22
    go_wp2
    go_ret2
    exact ⟨rfl, rfl⟩
  · have c2 : 100 < p := by omega
    go_enter Try.func22, Try.ntmps22
    go_wp2
    go_ret2
    exact ⟨rfl, rfl⟩
/-- only block g was written -/
def Only (g : Nat) (w w' : World) : Prop := (∀ q, q ≠ g → w'.heap[q]? = w.heap[q]?) ∧ (∀ B w0, Below B w0 w → B ≤ g → Below B w0 w')
theorem only_setAge (w : World) (g : Nat) (n : Int) : Only g w (setAge w g n) := by
  refine ⟨?_, ?_⟩
  · intro q hq; exact Below.heap_setCell _ _ _ q hq
  · intro B w0 hb hB; exact bl_set (p := ⟨g, 1, none⟩) (bl_drew hb _) hB _
theorem Tick_o (g : Nat) (p a : Int) (w : World) (hp : 1 ≤ p) (hp2 : p ≤ 100) (ha : 0 ≤ a) (ha2 : a ≤ p) (h : KeepAt w g p a) :
    Calls Try.prog 23 #[.pointer (some ⟨g, 0, none⟩)] w fun e w' => e = .returned (.tuple #[]) ∧ KeepAt w' g p (tickB p a) ∧ Only g w w' :=
  (Tick_any g p a w hp hp2 ha ha2 h).mono fun e w' ⟨he, hw⟩ => ⟨he, by rw [← hw]; exact keepAt_set h _, by rw [← hw]; exact only_setAge _ _ _⟩
theorem Heard_o (g : Nat) (p a : Int) (w : World) (hp : 1 ≤ p) (hp2 : p ≤ 100) (ha : 0 ≤ a) (ha2 : a ≤ p) (h : KeepAt w g p a) :
    Calls Try.prog 25 #[.pointer (some ⟨g, 0, none⟩)] w fun e w' => e = .returned (.tuple #[]) ∧ KeepAt w' g p 0 ∧ Only g w w' :=
  (Heard_any g p a w hp hp2 ha ha2 h).mono fun e w' ⟨he, hw⟩ => ⟨he, by rw [← hw]; exact keepAt_set h _, by rw [← hw]; exact only_setAge _ _ _⟩
def RKeepAt (w : World) (g : Nat) (p a : Int) : Prop := w.heap[g]? = some (.cells #[.int .i64 a, .int .i64 p] 44 (0, 0))
theorem RTick_any (g : Nat) (p a : Int) (w : World) (hp : 1 ≤ p) (hp2 : p ≤ 100) (ha : 0 ≤ a) (ha2 : a ≤ p) (h : RKeepAt w g p a) :
    Calls Try.prog 24 #[.pointer (some ⟨g, 0, none⟩)] w fun e w' => e = .returned (.tuple #[]) ∧ RKeepAt w' g p (tickB p a) ∧ Only g w w' := by
  have h0 : w.cell? ⟨g, 0, none⟩ = some (.int .i64 a) := blk_cell h 0
  have h1 : w.cell? ⟨g, 1, none⟩ = some (.int .i64 p) := blk_cell h 1
  have hf : w.frozen? ⟨g, 0, none⟩ = false := blk_frozen h 0
  by_cases hlt : a < p
  · have ht : tickB p a = a + 1 := by simp [tickB, hlt]
    rw [ht]
    clear ht
    have H := Lib.hid h
    clear h
    go_enter Try.func24, Try.ntmps24
    go_wp2_with fail
    go_quiet (fail)
    all_goals go_wp2_with fail
    go_end0
    refine ⟨rfl, ?_, ⟨?_, ?_⟩⟩
    · exact set_at (w := w.drewN _) H.out 0 _
    · intro q hq; exact Below.heap_setCell _ _ _ q hq
    · intro B w0 hb hB; exact bl_set (p := ⟨g, 0, none⟩) (bl_drew hb _) hB _
  · have ht : tickB p a = a := by simp [tickB, hlt]; omega
    rw [ht]
    clear ht
    have H := Lib.hid h
    clear h
    go_enter Try.func24, Try.ntmps24
    go_wp2_with fail
    go_quiet (fail)
    all_goals go_wp2_with fail
    go_end0
    exact ⟨rfl, H.out, ⟨fun _ _ => rfl, fun B w0 hb _ => bl_drew hb _⟩⟩
theorem RAlive_any (g : Nat) (p a : Int) (w : World) (h : RKeepAt w g p a) :
    Calls Try.prog 28 #[.pointer (some ⟨g, 0, none⟩)] w fun e w' => e = .returned (.bool (decide (a < p))) ∧ Drawn0 w w' := by
  have h0 : w.cell? ⟨g, 0, none⟩ = some (.int .i64 a) := blk_cell h 0
  have h1 : w.cell? ⟨g, 1, none⟩ = some (.int .i64 p) := blk_cell h 1
  go_enter Try.func28, Try.ntmps28
  go_wp2_with fail
  go_quiet (fail)
  all_goals go_wp2_with fail
  go_ret
  exact ⟨rfl, _, rfl⟩

theorem lives21 (w : World) : Calls Try.prog 20 #[] w fun e w' => e = .returned (.bool true) ∧ Below w.heap.size w w' := by
  have N := Lib.hid (New_yes 2 w (by omega) (by omega))
  have T0 := Lib.hid (fun g w (h : KeepAt w g 2 0) => Tick_o g 2 0 w (by omega) (by omega) (by omega) (by omega) h)
  have T1 := Lib.hid (fun g w (h : KeepAt w g 2 1) => Tick_o g 2 1 w (by omega) (by omega) (by omega) (by omega) h)
  have A1 := Lib.hid (fun g w (h : KeepAt w g 2 1) => Alive_any g 2 1 w (by omega) h)
  have A2 := Lib.hid (fun g w (h : KeepAt w g 2 2) => Alive_any g 2 2 w (by omega) h)
  have G2 := Lib.hid (fun g w (h : KeepAt w g 2 2) => Age_any g 2 2 w (by omega) h)
  generalize hg : w.heap.size = g at N
  go_enter Try.func20, Try.ntmps20
  go_wp2_with fail
  refine N.out.mono ?_
  rintro e w1 ⟨rfl, hw1⟩
  have hk1 : KeepAt w1 g 2 0 := by rw [← hw1, ← hg]; exact new_at _ _
  have HB1 : Hid (Below g w w1) := Lib.hid (by rw [← hw1, ← hg]; exact bl_all (Below.refl _ w) _)
  clear hw1 N
  go_wp2_with fail
  refine (T0.out _ _ hk1).mono ?_
  rintro e w2 ⟨rfl, hk2, ho2⟩
  have hk2' : KeepAt w2 g 2 1 := hk2
  have HB2 : Hid (Below g w w2) := Lib.hid (ho2.2 _ _ HB1.out (Nat.le_refl _))
  clear hk1 hk2 ho2 HB1
  go_wp2_with fail
  refine (A1.out _ _ hk2').mono ?_
  rintro e w3 ⟨rfl, n3, rfl⟩
  have ev : decide ((1 : Int) < 2) = true := rfl
  rw [ev]
  generalize hw3 : w2.drewN n3 = w3
  have hk3 : KeepAt w3 g 2 1 := by rw [← hw3]; exact hk2'
  have HB3 : Hid (Below g w w3) := Lib.hid (by rw [← hw3]; exact bl_drew HB2.out _)
  clear hw3 hk2' HB2 ev
  go_wp2_with fail
  refine (T1.out _ _ hk3).mono ?_
  rintro e w4 ⟨rfl, hk4, ho4⟩
  have hk4' : KeepAt w4 g 2 2 := hk4
  have HB4 : Hid (Below g w w4) := Lib.hid (ho4.2 _ _ HB3.out (Nat.le_refl _))
  clear hk3 hk4 ho4 HB3
  go_wp2_with fail
  refine (A2.out _ _ hk4').mono ?_
  rintro e w5 ⟨rfl, n5, rfl⟩
  have ev : decide ((2 : Int) < 2) = false := rfl
  rw [ev]
  generalize hw5 : w4.drewN n5 = w5
  have hk5 : KeepAt w5 g 2 2 := by rw [← hw5]; exact hk4'
  have HB5 : Hid (Below g w w5) := Lib.hid (by rw [← hw5]; exact bl_drew HB4.out _)
  clear hw5 hk4' HB4 ev
  go_wp2_with fail
  refine (G2.out _ _ hk5).mono ?_
  rintro e w6 ⟨rfl, rfl⟩
  go_wp2_with fail
  go_ret
  exact ⟨rfl, HB5.out⟩
end Go.Proofs.Ytafgaekpmnheoaa
