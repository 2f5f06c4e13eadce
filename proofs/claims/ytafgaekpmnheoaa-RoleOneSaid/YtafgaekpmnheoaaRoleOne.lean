/-
  RoleOne: walked by hand over its callees' contracts.
-/
import Derived.Test.YtafgaekpmnheoaaRolex2
import Derived.Test.YtafgaekpmnheoaaRolePure
import Derived.Test.YtafgaekpmnheoaaY
import Derived.Lib.Hide
namespace Go.Proofs.Ytafgaekpmnheoaa.RoleOne
open Go.RowKit Go.Proofs.Ytafgaekpmnheoaa Go.Proofs.Ytafgaekpmnheoaa.Role Go.Proofs.YtafgaekpmnheoaaW.PrintWords Go.Proofs.YtafgaekpmnheoaaW.PrintLast Go.Proofs.YtafgaekpmnheoaaW.PrintMore
theorem law26_source (a0 : Int) (a1 a2 : Bool) (w : World) : Calls Try.prog 31 #[.int .i64 a0, .bool a1, .bool a2] w fun e w' => e = .returned (.bool (if a1 = a2 then decide (a0 = 0) else a1)) ∧ Below w.heap.size w w' := role_Source.calls a0 a1 a2 _ w rfl
set_option maxHeartbeats 1000000 in
theorem law26_one (a b : Bool) (x y u1 : Int) (l : List Int) (w : World) (hl : l.length ≤ 4)
    (D1 : Hid (∀ a0 a1 a2 w, Calls Try.prog 31 #[.int .i64 a0, .bool a1, .bool a2] w fun e w' => e = .returned (.bool (if a1 = a2 then decide (a0 = 0) else a1)) ∧ Below w.heap.size w w'))
    (D2 : Hid (∀ w, Calls Try.prog 33 #[.int .u64 x, .int .u64 y, .int .i64 256] w fun e w' => e = .returned (.int .u64 (Go.bits .or .u64 x y)) ∧ Below w.heap.size w w'))
    (D3 : Hid (∀ w, Calls Try.prog 33 #[.int .u64 x, .int .u64 y, .int .i64 0] w fun e w' => e = .returned (.int .u64 0) ∧ Below w.heap.size w w'))
    (D4 : Hid (∀ w, Calls Try.prog 33 #[.int .u64 x, .int .u64 y, .int .i64 16] w fun e w' => e = .returned (.int .u64 u1) ∧ Below w.heap.size w w'))
    (D5 : Hid (∀ w, Calls Try.prog 36 #[.int .u64 u1] w fun e w' => ∃ v0_ : Value, e = .returned (v0_) ∧ Kd.R (Kd.int .i64) 3 w' w.heap.size (fun _ => True) v0_ l ∧ Below w.heap.size w w'))
    (D6 : Hid (∀ w, Calls Try.prog 35 #[] w fun e w' => e = .returned (.bool true) ∧ Below w.heap.size w w')) :
    Calls Try.prog 10 #[.agg #[.bool a, .bool b, .int .u64 x, .int .u64 y]] w fun e w' => e = .returned (.bool true) ∧ Below w.heap.size w w' := by
  have HL := Lib.hid hl
  clear hl
  have hu57 := Try.underlying57
  cases a <;> cases b
  all_goals
    go_enter Try.func10, Try.ntmps10
    go_wp2_with fail
    go_quiet (fail)
    go_wp2_with fail
    refine (D1.out _ _ _ _).mono ?_
    rintro e w1 ⟨rfl, hb1⟩
    have HB1 := Lib.hid (bl_then (bl_drew (Below.alloc (Below.refl w.heap.size w) (Nat.le_refl _) _) _) hb1)
    clear hb1
    go_wp2_with fail
    refine (D1.out _ _ _ _).mono ?_
    rintro e w2 ⟨rfl, hb2⟩
    have HB2 := Lib.hid (bl_then HB1.out hb2)
    clear HB1 hb2
    go_wp2_with fail
    refine (D1.out _ _ _ _).mono ?_
    rintro e w3 ⟨rfl, hb3⟩
    have HB3 := Lib.hid (bl_then HB2.out hb3)
    clear HB2 hb3
    go_wp2_with fail
    refine (D2.out _).mono ?_
    rintro e w4 ⟨rfl, hb4⟩
    have HB4 := Lib.hid (bl_then HB3.out hb4)
    clear HB3 hb4
    go_wp2_with fail
    refine (D3.out _).mono ?_
    rintro e w5 ⟨rfl, hb5⟩
    have HB5 := Lib.hid (bl_then HB4.out hb5)
    clear HB4 hb5
    go_wp2_with fail
    refine (D4.out _).mono ?_
    rintro e w6 ⟨rfl, hb6⟩
    have HB6 := Lib.hid (bl_then HB5.out hb6)
    clear HB5 hb6
    go_wp2_with fail
    refine (D5.out _).mono ?_
    rintro e w7 ⟨v7, rfl, ho7, hb7⟩
    have HB7 := Lib.hid (bl_then HB6.out hb7)
    obtain ⟨A7, c7, rfl⟩ := Kd.R_slice ho7
    clear HB6 hb7 ho7
    have hl4 : ((l.length : Int) ≤ 4) = True := by have := HL.out; exact eq_true (by omega)
    go_wp2_with fail
    refine (D6.out _).mono ?_
    rintro e w8 ⟨rfl, hb8⟩
    have HB8 := Lib.hid (bl_then HB7.out hb8)
    clear HB7 hb8
    go_wp2_with fail
    go_ret
    exact ⟨rfl, HB8.out⟩
open Go.Proofs.Ytafgaekpmnheoaa.RolePure Go.Proofs.Ytafgaekpmnheoaa.RoleBP Go.Proofs.Ytafgaekpmnheoaa.BitsPlain
theorem holds (a b : Bool) (x' y' : Int) (hx0 : (Lit.int .u64 x').wf = true) (hy0 : (Lit.int .u64 y').wf = true) (w : World) :
    Calls Try.prog 10 #[.agg #[.bool a, .bool b, .int .u64 x', .int .u64 y']] w fun e w' => e = .returned (.bool true) ∧ Below w.heap.size w w' := by
  obtain ⟨x, rfl, hx⟩ := u64_of hx0
  obtain ⟨y, rfl, hy⟩ := u64_of hy0
  have b0 : ∀ {e : Ending} {v : Value} {w w' : World}, e = .returned v ∧ Drawn0 w w' → e = .returned v ∧ Below w.heap.size w w' := by
    rintro e v w w' ⟨h, nd, rfl⟩
    exact ⟨h, bl_drew (Below.refl _ _) nd⟩
  have h1 := union_p x y 256 hx hy (by decide) (by decide) 200 (by omega)
  rw [union_all x y hx hy] at h1
  have h2 := union_p x y 0 hx hy (by decide) (by decide) 200 (by omega)
  rw [union_none] at h2
  have h3 := union_p x y 16 hx hy (by decide) (by decide) 200 (by omega)
  have hf := union_few x y
  refine law26_one a b (x : Int) (y : Int) _ (intsN (list (unionN x y 16))) w (few_len _ hf) law26_source (fun w => (role_Union.calls 200 x y 256 _ w ?_).mono fun e w' h => b0 h) (fun w => (role_Union.calls 200 x y 0 _ w h2).mono fun e w' h => b0 h) (fun w => (role_Union.calls 200 x y 16 _ w h3).mono fun e w' h => b0 h)
    (fun w => twainref01_List.calls 200 _ _ w (ref_list_p _ (by omega) 200 (by omega))) (fun w => twainlaw26_lives.calls 200 true w (lives_p 200 (by omega)))
  rw [h1, u64_or_nat _ _ hx hy]
end Go.Proofs.Ytafgaekpmnheoaa.RoleOne
