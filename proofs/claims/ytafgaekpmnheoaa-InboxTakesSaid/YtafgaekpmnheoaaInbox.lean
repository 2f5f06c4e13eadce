/-
  The contracts of package inbox and of its reference: each function steps as Go does; memory: the box's one block.
-/
import Derived.Test.YtafgaekpmnheoaaProg
import Derived.WalkKit
import Derived.WalkLawsBesides
import Derived.WalkSpells
import Derived.Lib.Hide
import Derived.Test.YtafgaekpmnheoaaY
namespace Go.Proofs.Ytafgaekpmnheoaa
open Go.RowKit


/-- is the number the next one? -/
def nextB (last n : Int) : Bool := decide (last < 2147483647) && (n == last + 1)

theorem is_yes (g : Nat) (w : World) (h : w.cell? ⟨g, 0, none⟩ = some (.bool true)) :
    Calls Try.prog 44 #[.pointer (some ⟨g, 0, none⟩)] w fun e w' => e = .returned (.bool true) ∧ w = w' := by
  go_enter Try.func44, Try.ntmps44
  go_wp2
  go_ret
  exact ⟨rfl, rfl⟩
theorem is_none (g : Nat) (w : World) (h : w.cell? ⟨g, 0, none⟩ = some (.bool false)) :
    Calls Try.prog 44 #[.pointer (some ⟨g, 0, none⟩)] w fun e w' => e = .returned (.bool false) ∧ w = w' := by
  go_enter Try.func44, Try.ntmps44
  go_wp2
  go_ret
  exact ⟨rfl, rfl⟩
theorem is_nil (w : World) : Calls Try.prog 44 #[.pointer none] w fun e w' => e = .returned (.bool false) ∧ w = w' := by
  go_enter Try.func44, Try.ntmps44
  go_wp2
  go_ret
  exact ⟨rfl, rfl⟩

theorem next_any (g : Nat) (last n : Int) (w : World) (hl : 0 ≤ last ∧ last ≤ 2147483647) (h : w.cell? ⟨g, 1, none⟩ = some (.int .i64 last)) :
    Calls Try.prog 46 #[.pointer (some ⟨g, 0, none⟩), .int .i64 n] w fun e w' => e = .returned (.bool (nextB last n)) ∧ w = w' := by
  by_cases h1 : last < 2147483647
  · have hb : nextB last n = (n == last + 1) := by simp [nextB, h1]
    have H := Lib.hid hb
    clear hb
    go_enter Try.func46, Try.ntmps46
    go_wp2
    go_ret
    exact ⟨ret_bool (by rw [H.out]), rfl⟩
  · have hb : nextB last n = false := by simp [nextB, h1]
    have H := Lib.hid hb
    clear hb
    go_enter Try.func46, Try.ntmps46
    go_wp2
    go_ret
    exact ⟨ret_bool (by rw [H.out]), rfl⟩

def putN (w : World) (g : Nat) (n : Int) : World := w.setCell ⟨g, 1, none⟩ (.int .i64 n)

theorem take_yes (g : Nat) (last n : Int) (w : World) (hl : 0 ≤ last ∧ last ≤ 2147483647) (h : w.cell? ⟨g, 1, none⟩ = some (.int .i64 last)) (hf : w.frozen? ⟨g, 1, none⟩ = false) (hn : nextB last n = true) :
    Calls Try.prog 45 #[.pointer (some ⟨g, 0, none⟩), .int .i64 n, .func (.func 46) #[.pointer (some ⟨g, 0, none⟩)] #[]] w fun e w' => e = .returned (.bool true) ∧ putN w g n = w' := by
  go_enter Try.func45, Try.ntmps45
  go_wp2_with (go_at_call 46; refine (next_any _ _ _ _ hl h).mono ?_; rintro e w' ⟨rfl, rfl⟩)
  go_ret
  exact ⟨rfl, rfl⟩
theorem take_no (g : Nat) (last n : Int) (w : World) (hl : 0 ≤ last ∧ last ≤ 2147483647) (h : w.cell? ⟨g, 1, none⟩ = some (.int .i64 last)) (hn : nextB last n = false) :
    Calls Try.prog 45 #[.pointer (some ⟨g, 0, none⟩), .int .i64 n, .func (.func 46) #[.pointer (some ⟨g, 0, none⟩)] #[]] w fun e w' => e = .returned (.bool false) ∧ w = w' := by
  go_enter Try.func45, Try.ntmps45
  go_wp2_with (go_at_call 46; refine (next_any _ _ _ _ hl h).mono ?_; rintro e w' ⟨rfl, rfl⟩)
  go_ret
  exact ⟨rfl, rfl⟩

theorem Take_yes (g : Nat) (last n : Int) (w : World) (hl : 0 ≤ last ∧ last ≤ 2147483647) (h0 : w.cell? ⟨g, 0, none⟩ = some (.bool true)) (h : w.cell? ⟨g, 1, none⟩ = some (.int .i64 last)) (hf : w.frozen? ⟨g, 1, none⟩ = false) (hn : nextB last n = true) :
    Calls Try.prog 17 #[.pointer (some ⟨g, 0, none⟩), .int .i64 n] w fun e w' => e = .returned (.bool true) ∧ putN w g n = w' := by
  have hmf : ∀ (fn : Fn) (first cap : Array Value) (w : World), (Instr.makeFunc fn first cap).run Try.prog w = .ok (.func fn first cap) w := fun _ _ _ _ => rfl
  go_enter Try.func17, Try.ntmps17
  go_wp2_with (first | (go_at_call 44; refine (is_yes _ _ h0).mono ?_; rintro e w' ⟨rfl, rfl⟩) | (go_at_call 45; refine (take_yes _ _ _ _ hl h hf hn).mono ?_; rintro e w' ⟨rfl, rfl⟩))
  go_ret
  exact ⟨rfl, rfl⟩
theorem Take_no (g : Nat) (last n : Int) (w : World) (hl : 0 ≤ last ∧ last ≤ 2147483647) (h0 : w.cell? ⟨g, 0, none⟩ = some (.bool true)) (h : w.cell? ⟨g, 1, none⟩ = some (.int .i64 last)) (hn : nextB last n = false) :
    Calls Try.prog 17 #[.pointer (some ⟨g, 0, none⟩), .int .i64 n] w fun e w' => e = .returned (.bool false) ∧ w = w' := by
  have hmf : ∀ (fn : Fn) (first cap : Array Value) (w : World), (Instr.makeFunc fn first cap).run Try.prog w = .ok (.func fn first cap) w := fun _ _ _ _ => rfl
  go_enter Try.func17, Try.ntmps17
  go_wp2_with (first | (go_at_call 44; refine (is_yes _ _ h0).mono ?_; rintro e w' ⟨rfl, rfl⟩) | (go_at_call 45; refine (take_no _ _ _ _ hl h hn).mono ?_; rintro e w' ⟨rfl, rfl⟩))
  go_ret
  exact ⟨rfl, rfl⟩
theorem Take_nil (n : Int) (w : World) : Calls Try.prog 17 #[.pointer none, .int .i64 n] w fun e w' => e = .returned (.bool false) ∧ w = w' := by
  go_enter Try.func17, Try.ntmps17
  go_wp2_with (go_at_call 44; refine (is_nil _).mono ?_; rintro e w' ⟨rfl, rfl⟩)
  go_ret
  exact ⟨rfl, rfl⟩
theorem Take_none (g : Nat) (n : Int) (w : World) (h0 : w.cell? ⟨g, 0, none⟩ = some (.bool false)) : Calls Try.prog 17 #[.pointer (some ⟨g, 0, none⟩), .int .i64 n] w fun e w' => e = .returned (.bool false) ∧ w = w' := by
  go_enter Try.func17, Try.ntmps17
  go_wp2_with (go_at_call 44; refine (is_none _ _ h0).mono ?_; rintro e w' ⟨rfl, rfl⟩)
  go_ret
  exact ⟨rfl, rfl⟩
theorem Ack_any (g : Nat) (last : Int) (w : World) (h0 : w.cell? ⟨g, 0, none⟩ = some (.bool true)) (h : w.cell? ⟨g, 1, none⟩ = some (.int .i64 last)) :
    Calls Try.prog 19 #[.pointer (some ⟨g, 0, none⟩)] w fun e w' => e = .returned (.int .i64 last) ∧ w = w' := by
  go_enter Try.func19, Try.ntmps19
  go_wp2_with (go_at_call 44; refine (is_yes _ _ h0).mono ?_; rintro e w' ⟨rfl, rfl⟩)
  go_ret
  exact ⟨rfl, rfl⟩
theorem Ack_nil (w : World) : Calls Try.prog 19 #[.pointer none] w fun e w' => e = .returned (.int .i64 0) ∧ w = w' := by
  go_enter Try.func19, Try.ntmps19
  go_wp2_with (go_at_call 44; refine (is_nil _).mono ?_; rintro e w' ⟨rfl, rfl⟩)
  go_ret
  exact ⟨rfl, rfl⟩
theorem Ack_none (g : Nat) (w : World) (h0 : w.cell? ⟨g, 0, none⟩ = some (.bool false)) : Calls Try.prog 19 #[.pointer (some ⟨g, 0, none⟩)] w fun e w' => e = .returned (.int .i64 0) ∧ w = w' := by
  go_enter Try.func19, Try.ntmps19
  go_wp2_with (go_at_call 44; refine (is_none _ _ h0).mono ?_; rintro e w' ⟨rfl, rfl⟩)
  go_ret
  exact ⟨rfl, rfl⟩
theorem New_any (w : World) : Calls Try.prog 16 #[] w fun e w' => e = .returned (.pointer (some ⟨w.heap.size, 0, none⟩)) ∧ w.alloc (.cells #[.bool true, .int .i64 0] 33) = w' := by
  go_enter Try.func16, Try.ntmps16
  go_wp2
  go_ret
  exact ⟨rfl, rfl⟩

def putR (w : World) (g : Nat) (n : Int) : World := w.setCell ⟨g, 0, none⟩ (.int .i64 n)
theorem RTake_yes (g : Nat) (last n : Int) (w : World) (hl : 0 ≤ last ∧ last ≤ 2147483647) (h : w.cell? ⟨g, 0, none⟩ = some (.int .i64 last)) (hf : w.frozen? ⟨g, 0, none⟩ = false) (hn : nextB last n = true) :
    Calls Try.prog 18 #[.pointer (some ⟨g, 0, none⟩), .int .i64 n] w fun e w' => e = .returned (.bool true) ∧ putR w g n = w' := by
  have h1 : last < 2147483647 := by simp [nextB] at hn; omega
  have h2 : (n != last + 1) = false := by simp [nextB] at hn; simp; omega
  clear hn
  go_enter Try.func18, Try.ntmps18
  go_wp2
  go_ret
  exact ⟨rfl, rfl⟩
theorem RTake_no (g : Nat) (last n : Int) (w : World) (hl : 0 ≤ last ∧ last ≤ 2147483647) (h : w.cell? ⟨g, 0, none⟩ = some (.int .i64 last)) (hn : nextB last n = false) :
    Calls Try.prog 18 #[.pointer (some ⟨g, 0, none⟩), .int .i64 n] w fun e w' => e = .returned (.bool false) ∧ w = w' := by
  by_cases h1 : last < 2147483647
  · have h2 : (n != last + 1) = true := by simp [nextB, h1] at hn; simpa using hn
    clear hn
    go_enter Try.func18, Try.ntmps18
    go_wp2
    go_ret
    exact ⟨rfl, rfl⟩
  · clear hn
    have h3 : 2147483647 ≤ last := by omega
    go_enter Try.func18, Try.ntmps18
    go_wp2
    go_ret
    exact ⟨rfl, rfl⟩
end Go.Proofs.Ytafgaekpmnheoaa
