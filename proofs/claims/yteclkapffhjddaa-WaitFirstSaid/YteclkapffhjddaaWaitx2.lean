/- The functions that the statements of this group reach, each as a plain Lean function, and a proof that the Go function comes to what it says (written by a program of this session over the kit's print). -/
import Derived.Test.YteclkapffhjddaaWaitx0
import Derived.Test.YteclkapffhjddaaWaitx1
namespace Go.Proofs.Yteclkapffhjddaa.Wait
open Go.RowKit Go.Proofs.YteclkapffhjddaaW.PrintWords Go.Proofs.YteclkapffhjddaaW.PrintLast Go.Proofs.YteclkapffhjddaaW.PrintMore
attribute [local go_sem] max2_int min2_int max_two min_two max_three min_three max_four min_four   -- for this text's walks alone
set_option linter.unusedVariables false
set_option linter.unusedSimpArgs false

/-! ### wait_May: function 40, by hand -/
def mayOv (a b : S55) : Bool := (span_Overlap.f a.f0 a.f1 b.f0 b.f1).getD false
theorem mayOv_f (a b : S55) : span_Overlap.f a.f0 a.f1 b.f0 b.f1 = some (mayOv a b) := by
  unfold mayOv span_Overlap.f span_Meet.f
  split <;> rfl
set_option maxRecDepth 10000 in
theorem may51 (x : S57) (s : S55) (w : World) : Calls Try.prog 51 #[.agg #[.int .i64 x.f0, .int .i64 x.f1, .int .i64 x.f2.f0, .int .i64 x.f2.f1], .agg #[.int .i64 s.f0, .int .i64 s.f1]] w fun e w' => e = .returned (.bool (mayOv x.f2 s)) ∧ Below w.heap.size w w' := by
  have hu55 := Try.underlying55
  have hu57 := Try.underlying57
  have D := Lib.hid (fun w => span_Overlap.calls x.f2.f0 x.f2.f1 s.f0 s.f1 _ w (mayOv_f x.f2 s))
  go_enter Try.func51, Try.ntmps51
  go_wp2_with fail
  refine (D.out _).mono ?_
  rintro e w1 ⟨rfl, hb1⟩
  go_wp2_with fail
  go_ret
  exact ⟨rfl, bl_then (bl_all (bl_all (Below.refl _ _) _) _) hb1⟩
set_option maxRecDepth 10000 in
theorem may50 (x y : S57) (g : Nat) (w : World) (hg : w.heap[g]? = some (.cells #[.int .i64 x.f0, .int .i64 x.f1, .int .i64 x.f2.f0, .int .i64 x.f2.f1] 57 (0, 0))) : Calls Try.prog 50 #[.agg #[.int .i64 y.f0, .int .i64 y.f1, .int .i64 y.f2.f0, .int .i64 y.f2.f1], .pointer (some ⟨g, 0, none⟩)] w fun e w' => e = .returned (.bool (mayOv x.f2 y.f2)) ∧ Below w.heap.size w w' := by
  have hu55 := Try.underlying55
  have hu57 := Try.underlying57
  have D := Lib.hid (may51 x y.f2)
  have c0 : ∀ o, (w.alloc o).cell? ⟨g, 0, none⟩ = some (.int .i64 x.f0) := fun o => blk_cell (old_at hg o) 0
  have c1 : ∀ o, (w.alloc o).cell? ⟨g, 1, none⟩ = some (.int .i64 x.f1) := fun o => blk_cell (old_at hg o) 1
  have c2 : ∀ o, (w.alloc o).cell? ⟨g, 2, none⟩ = some (.int .i64 x.f2.f0) := fun o => blk_cell (old_at hg o) 2
  have c3 : ∀ o, (w.alloc o).cell? ⟨g, 3, none⟩ = some (.int .i64 x.f2.f1) := fun o => blk_cell (old_at hg o) 3
  go_enter Try.func50, Try.ntmps50
  go_wp2_with fail
  refine (D.out _).mono ?_
  rintro e w1 ⟨rfl, hb1⟩
  clear c0 c1 c2 c3
  go_wp2_with fail
  go_ret
  exact ⟨rfl, bl_then (bl_all (Below.refl _ _) _) hb1⟩
set_option maxRecDepth 10000 in
theorem may60 (y : S57) (w : World) : Calls Try.prog 60 #[.agg #[.int .i64 y.f0, .int .i64 y.f1, .int .i64 y.f2.f0, .int .i64 y.f2.f1]] w fun e w' => e = .returned (.bool true) ∧ Below w.heap.size w w' := by
  have hu57 := Try.underlying57
  go_enter Try.func60, Try.ntmps60
  go_wp2_with fail
  go_ret
  exact ⟨rfl, bl_all (Below.refl _ _) _⟩
set_option maxRecDepth 10000 in
theorem may62 (x y : S57) (g : Nat) (w : World) (hg : w.heap[g]? = some (.cells #[.int .i64 x.f0, .int .i64 x.f1, .int .i64 x.f2.f0, .int .i64 x.f2.f1] 57 (0, 0))) : Calls Try.prog 62 #[.agg #[.int .i64 y.f0, .int .i64 y.f1, .int .i64 y.f2.f0, .int .i64 y.f2.f1], .pointer (some ⟨g, 0, none⟩)] w fun e w' => e = .returned (.bool (decide (y.f0 < x.f0))) ∧ Below w.heap.size w w' := by
  have hu57 := Try.underlying57
  have c0 : ∀ o, (w.alloc o).cell? ⟨g, 0, none⟩ = some (.int .i64 x.f0) := fun o => blk_cell (old_at hg o) 0
  go_enter Try.func62, Try.ntmps62
  go_wp2_with fail
  go_ret
  exact ⟨rfl, bl_all (Below.refl _ _) _⟩
set_option maxRecDepth 10000 in
set_option maxHeartbeats 1000000 in
theorem mayWrites50 (g : Nat) (p : S57 → Bool) (A : Option Addr) (c : Nat) (l : List S57) (w : World) (hr : Kd.C k57 w A l.length l)
    (D : Hid (∀ x v, Below w.heap.size w v → Calls Try.prog 50 #[.agg #[.int .i64 x.f0, .int .i64 x.f1, .int .i64 x.f2.f0, .int .i64 x.f2.f1], .pointer (some ⟨g, 0, none⟩)] v fun e w' => e = .returned (.bool (p x)) ∧ Below v.heap.size v w')) :
    Calls Try.prog 53 #[.slice A l.length c, .func (.func 50) #[] #[.pointer (some ⟨g, 0, none⟩)]] w fun e w' => e = .returned (.bool (l.any (fun x => x.f1 == 1 && p x))) ∧ Below w.heap.size w w' := by
  have hu55 := Try.underlying55
  have hu57 := Try.underlying57
  have hl := hr.2.1
  have HR := Lib.hid hr
  clear hr
  obtain ⟨R, hR⟩ : ∃ R, R = l.any (fun x => x.f1 == 1 && p x) := ⟨_, rfl⟩
  rw [← hR]
  have HQ := Lib.hid hR
  clear hR
  go_enter Try.func53, Try.ntmps53
  go_wp2_with fail
  go_loopw [9] (fun i wr => ∃ k : Nat, k ≤ l.length ∧ i = .int .i64 k ∧ Veil (R = (l.drop k).any (fun x => x.f1 == 1 && p x)) ∧ Below w.heap.size w wr)
    (fun i _ => l.length - (intOf i).toNat)
  case atStart =>
    exact ⟨0, Nat.zero_le _, rfl, ⟨HQ.out⟩, Below.refl _ w⟩
  case round =>
    obtain ⟨k, hk, rfl, hV, hB⟩ := hrel
    have HBB := Lib.hid hB
    by_cases hlt : k < l.length
    · obtain ⟨ad, rfl, hx0, hx1, hx2, hx3⟩ := at_T57 (Kd.C_below HR.out hB) (k : Int) (by omega) (by omega)
      rw [Int.toNat_natCast] at hx0  hx1  hx2  hx3
      obtain ⟨x, hx⟩ : ∃ x, rd_T57 l (k : Int) = x := ⟨_, rfl⟩
      rw [hx] at hx0  hx1  hx2  hx3
      have HX := Lib.hid hx
      have hxk : l[k] = x := by rw [← hx]; unfold rd_T57; simp [List.getD_eq_getElem?_getD, hlt]
      have h1 := hV.out
      rw [List.drop_eq_getElem_cons hlt, List.any_cons, hxk] at h1
      clear hx hB hxk
      by_cases hk1 : x.f1 = 1
      · rw [show (x.f1 == 1) = true by simpa using hk1, Bool.true_and] at h1
        obtain ⟨x0, x1, x2⟩ := x
        obtain rfl : x1 = 1 := hk1
        cases hq : p ⟨x0, 1, x2⟩
        case false =>
          rw [hq] at h1
          rw [Bool.false_or] at h1
          have HP := Lib.hid hq
          have H1 := Lib.hid h1
          clear hq h1
          go_wp2_with fail
          refine (D.out ⟨x0, 1, x2⟩ _ (bl_all HBB.out _)).mono ?_
          rintro e w' ⟨rfl, hb'⟩
          rw [HP.out]
          have hb2 := Lib.hid hb'
          clear hb' hx0  hx1  hx2  hx3
          go_wp2_with fail
          go_roundw
          case rel => exact ⟨k + 1, by omega, by go_num, ⟨H1.out⟩, bl_then (bl_all HBB.out _) hb2.out⟩
          case measure => simp [intOf]; omega
        case true =>
          rw [hq] at h1
          rw [Bool.true_or] at h1
          have HP := Lib.hid hq
          have H1 := Lib.hid h1
          clear hq h1
          go_wp2_with fail
          refine (D.out ⟨x0, 1, x2⟩ _ (bl_all HBB.out _)).mono ?_
          rintro e w' ⟨rfl, hb'⟩
          rw [HP.out]
          have hb2 := Lib.hid hb'
          clear hb' hx0  hx1  hx2  hx3
          go_wp2_with fail
          go_ret
          exact ⟨ret_bool H1.out.symm, bl_then (bl_all HBB.out _) hb2.out⟩
      · rw [show (x.f1 == 1) = false by simpa using hk1, Bool.false_and, Bool.false_or] at h1
        have H1 := Lib.hid h1
        clear h1
        go_wp2_with fail
        go_roundw
        case rel => exact ⟨k + 1, by omega, by go_num, ⟨H1.out⟩, bl_all HBB.out _⟩
        case measure => simp [intOf]; omega
    · clear hB
      go_wp2_with fail
      go_ret
      refine ⟨ret_bool ?_, HBB.out⟩
      have h1 := hV.out
      rw [show l.drop k = [] from List.drop_eq_nil_of_le (by omega)] at h1
      exact h1.symm
set_option maxRecDepth 10000 in
set_option maxHeartbeats 1000000 in
theorem mayWrites60 (p : S57 → Bool) (A : Option Addr) (c : Nat) (l : List S57) (w : World) (hr : Kd.C k57 w A l.length l)
    (D : Hid (∀ x v, Below w.heap.size w v → Calls Try.prog 60 #[.agg #[.int .i64 x.f0, .int .i64 x.f1, .int .i64 x.f2.f0, .int .i64 x.f2.f1]] v fun e w' => e = .returned (.bool (p x)) ∧ Below v.heap.size v w')) :
    Calls Try.prog 53 #[.slice A l.length c, .func (.func 60) #[] #[]] w fun e w' => e = .returned (.bool (l.any (fun x => x.f1 == 1 && p x))) ∧ Below w.heap.size w w' := by
  have hu55 := Try.underlying55
  have hu57 := Try.underlying57
  have hl := hr.2.1
  have HR := Lib.hid hr
  clear hr
  obtain ⟨R, hR⟩ : ∃ R, R = l.any (fun x => x.f1 == 1 && p x) := ⟨_, rfl⟩
  rw [← hR]
  have HQ := Lib.hid hR
  clear hR
  go_enter Try.func53, Try.ntmps53
  go_wp2_with fail
  go_loopw [9] (fun i wr => ∃ k : Nat, k ≤ l.length ∧ i = .int .i64 k ∧ Veil (R = (l.drop k).any (fun x => x.f1 == 1 && p x)) ∧ Below w.heap.size w wr)
    (fun i _ => l.length - (intOf i).toNat)
  case atStart =>
    exact ⟨0, Nat.zero_le _, rfl, ⟨HQ.out⟩, Below.refl _ w⟩
  case round =>
    obtain ⟨k, hk, rfl, hV, hB⟩ := hrel
    have HBB := Lib.hid hB
    by_cases hlt : k < l.length
    · obtain ⟨ad, rfl, hx0, hx1, hx2, hx3⟩ := at_T57 (Kd.C_below HR.out hB) (k : Int) (by omega) (by omega)
      rw [Int.toNat_natCast] at hx0  hx1  hx2  hx3
      obtain ⟨x, hx⟩ : ∃ x, rd_T57 l (k : Int) = x := ⟨_, rfl⟩
      rw [hx] at hx0  hx1  hx2  hx3
      have HX := Lib.hid hx
      have hxk : l[k] = x := by rw [← hx]; unfold rd_T57; simp [List.getD_eq_getElem?_getD, hlt]
      have h1 := hV.out
      rw [List.drop_eq_getElem_cons hlt, List.any_cons, hxk] at h1
      clear hx hB hxk
      by_cases hk1 : x.f1 = 1
      · rw [show (x.f1 == 1) = true by simpa using hk1, Bool.true_and] at h1
        obtain ⟨x0, x1, x2⟩ := x
        obtain rfl : x1 = 1 := hk1
        cases hq : p ⟨x0, 1, x2⟩
        case false =>
          rw [hq] at h1
          rw [Bool.false_or] at h1
          have HP := Lib.hid hq
          have H1 := Lib.hid h1
          clear hq h1
          go_wp2_with fail
          refine (D.out ⟨x0, 1, x2⟩ _ (bl_all HBB.out _)).mono ?_
          rintro e w' ⟨rfl, hb'⟩
          rw [HP.out]
          have hb2 := Lib.hid hb'
          clear hb' hx0  hx1  hx2  hx3
          go_wp2_with fail
          go_roundw
          case rel => exact ⟨k + 1, by omega, by go_num, ⟨H1.out⟩, bl_then (bl_all HBB.out _) hb2.out⟩
          case measure => simp [intOf]; omega
        case true =>
          rw [hq] at h1
          rw [Bool.true_or] at h1
          have HP := Lib.hid hq
          have H1 := Lib.hid h1
          clear hq h1
          go_wp2_with fail
          refine (D.out ⟨x0, 1, x2⟩ _ (bl_all HBB.out _)).mono ?_
          rintro e w' ⟨rfl, hb'⟩
          rw [HP.out]
          have hb2 := Lib.hid hb'
          clear hb' hx0  hx1  hx2  hx3
          go_wp2_with fail
          go_ret
          exact ⟨ret_bool H1.out.symm, bl_then (bl_all HBB.out _) hb2.out⟩
      · rw [show (x.f1 == 1) = false by simpa using hk1, Bool.false_and, Bool.false_or] at h1
        have H1 := Lib.hid h1
        clear h1
        go_wp2_with fail
        go_roundw
        case rel => exact ⟨k + 1, by omega, by go_num, ⟨H1.out⟩, bl_all HBB.out _⟩
        case measure => simp [intOf]; omega
    · clear hB
      go_wp2_with fail
      go_ret
      refine ⟨ret_bool ?_, HBB.out⟩
      have h1 := hV.out
      rw [show l.drop k = [] from List.drop_eq_nil_of_le (by omega)] at h1
      exact h1.symm
set_option maxRecDepth 10000 in
set_option maxHeartbeats 1000000 in
theorem maySome50 (g : Nat) (p : S57 → Bool) (A : Option Addr) (c : Nat) (l : List S57) (w : World) (hr : Kd.C k57 w A l.length l)
    (D : Hid (∀ x v, Below w.heap.size w v → Calls Try.prog 50 #[.agg #[.int .i64 x.f0, .int .i64 x.f1, .int .i64 x.f2.f0, .int .i64 x.f2.f1], .pointer (some ⟨g, 0, none⟩)] v fun e w' => e = .returned (.bool (p x)) ∧ Below v.heap.size v w')) :
    Calls Try.prog 55 #[.slice A l.length c, .func (.func 50) #[] #[.pointer (some ⟨g, 0, none⟩)]] w fun e w' => e = .returned (.bool (l.any (fun x => p x))) ∧ Below w.heap.size w w' := by
  have hu55 := Try.underlying55
  have hu57 := Try.underlying57
  have hl := hr.2.1
  have HR := Lib.hid hr
  clear hr
  obtain ⟨R, hR⟩ : ∃ R, R = l.any (fun x => p x) := ⟨_, rfl⟩
  rw [← hR]
  have HQ := Lib.hid hR
  clear hR
  go_enter Try.func55, Try.ntmps55
  go_wp2_with fail
  go_loopw [9] (fun i wr => ∃ k : Nat, k ≤ l.length ∧ i = .int .i64 k ∧ Veil (R = (l.drop k).any (fun x => p x)) ∧ Below w.heap.size w wr)
    (fun i _ => l.length - (intOf i).toNat)
  case atStart =>
    exact ⟨0, Nat.zero_le _, rfl, ⟨HQ.out⟩, Below.refl _ w⟩
  case round =>
    obtain ⟨k, hk, rfl, hV, hB⟩ := hrel
    have HBB := Lib.hid hB
    by_cases hlt : k < l.length
    · obtain ⟨ad, rfl, hx0, hx1, hx2, hx3⟩ := at_T57 (Kd.C_below HR.out hB) (k : Int) (by omega) (by omega)
      rw [Int.toNat_natCast] at hx0  hx1  hx2  hx3
      obtain ⟨x, hx⟩ : ∃ x, rd_T57 l (k : Int) = x := ⟨_, rfl⟩
      rw [hx] at hx0  hx1  hx2  hx3
      have HX := Lib.hid hx
      have hxk : l[k] = x := by rw [← hx]; unfold rd_T57; simp [List.getD_eq_getElem?_getD, hlt]
      have h1 := hV.out
      rw [List.drop_eq_getElem_cons hlt, List.any_cons, hxk] at h1
      clear hx hB hxk
      cases hq : p x
      case false =>
        rw [hq] at h1
        rw [Bool.false_or] at h1
        have HP := Lib.hid hq
        have H1 := Lib.hid h1
        clear hq h1
        go_wp2_with fail
        refine (D.out x _ (bl_all HBB.out _)).mono ?_
        rintro e w' ⟨rfl, hb'⟩
        rw [HP.out]
        have hb2 := Lib.hid hb'
        clear hb' hx0  hx1  hx2  hx3
        go_wp2_with fail
        go_roundw
        case rel => exact ⟨k + 1, by omega, by go_num, ⟨H1.out⟩, bl_then (bl_all HBB.out _) hb2.out⟩
        case measure => simp [intOf]; omega
      case true =>
        rw [hq] at h1
        rw [Bool.true_or] at h1
        have HP := Lib.hid hq
        have H1 := Lib.hid h1
        clear hq h1
        go_wp2_with fail
        refine (D.out x _ (bl_all HBB.out _)).mono ?_
        rintro e w' ⟨rfl, hb'⟩
        rw [HP.out]
        have hb2 := Lib.hid hb'
        clear hb' hx0  hx1  hx2  hx3
        go_wp2_with fail
        go_ret
        exact ⟨ret_bool H1.out.symm, bl_then (bl_all HBB.out _) hb2.out⟩
    · clear hB
      go_wp2_with fail
      go_ret
      refine ⟨ret_bool ?_, HBB.out⟩
      have h1 := hV.out
      rw [show l.drop k = [] from List.drop_eq_nil_of_le (by omega)] at h1
      exact h1.symm
set_option maxRecDepth 10000 in
set_option maxHeartbeats 1000000 in
theorem maySome62 (g : Nat) (p : S57 → Bool) (A : Option Addr) (c : Nat) (l : List S57) (w : World) (hr : Kd.C k57 w A l.length l)
    (D : Hid (∀ x v, Below w.heap.size w v → Calls Try.prog 62 #[.agg #[.int .i64 x.f0, .int .i64 x.f1, .int .i64 x.f2.f0, .int .i64 x.f2.f1], .pointer (some ⟨g, 0, none⟩)] v fun e w' => e = .returned (.bool (p x)) ∧ Below v.heap.size v w')) :
    Calls Try.prog 55 #[.slice A l.length c, .func (.func 62) #[] #[.pointer (some ⟨g, 0, none⟩)]] w fun e w' => e = .returned (.bool (l.any (fun x => p x))) ∧ Below w.heap.size w w' := by
  have hu55 := Try.underlying55
  have hu57 := Try.underlying57
  have hl := hr.2.1
  have HR := Lib.hid hr
  clear hr
  obtain ⟨R, hR⟩ : ∃ R, R = l.any (fun x => p x) := ⟨_, rfl⟩
  rw [← hR]
  have HQ := Lib.hid hR
  clear hR
  go_enter Try.func55, Try.ntmps55
  go_wp2_with fail
  go_loopw [9] (fun i wr => ∃ k : Nat, k ≤ l.length ∧ i = .int .i64 k ∧ Veil (R = (l.drop k).any (fun x => p x)) ∧ Below w.heap.size w wr)
    (fun i _ => l.length - (intOf i).toNat)
  case atStart =>
    exact ⟨0, Nat.zero_le _, rfl, ⟨HQ.out⟩, Below.refl _ w⟩
  case round =>
    obtain ⟨k, hk, rfl, hV, hB⟩ := hrel
    have HBB := Lib.hid hB
    by_cases hlt : k < l.length
    · obtain ⟨ad, rfl, hx0, hx1, hx2, hx3⟩ := at_T57 (Kd.C_below HR.out hB) (k : Int) (by omega) (by omega)
      rw [Int.toNat_natCast] at hx0  hx1  hx2  hx3
      obtain ⟨x, hx⟩ : ∃ x, rd_T57 l (k : Int) = x := ⟨_, rfl⟩
      rw [hx] at hx0  hx1  hx2  hx3
      have HX := Lib.hid hx
      have hxk : l[k] = x := by rw [← hx]; unfold rd_T57; simp [List.getD_eq_getElem?_getD, hlt]
      have h1 := hV.out
      rw [List.drop_eq_getElem_cons hlt, List.any_cons, hxk] at h1
      clear hx hB hxk
      cases hq : p x
      case false =>
        rw [hq] at h1
        rw [Bool.false_or] at h1
        have HP := Lib.hid hq
        have H1 := Lib.hid h1
        clear hq h1
        go_wp2_with fail
        refine (D.out x _ (bl_all HBB.out _)).mono ?_
        rintro e w' ⟨rfl, hb'⟩
        rw [HP.out]
        have hb2 := Lib.hid hb'
        clear hb' hx0  hx1  hx2  hx3
        go_wp2_with fail
        go_roundw
        case rel => exact ⟨k + 1, by omega, by go_num, ⟨H1.out⟩, bl_then (bl_all HBB.out _) hb2.out⟩
        case measure => simp [intOf]; omega
      case true =>
        rw [hq] at h1
        rw [Bool.true_or] at h1
        have HP := Lib.hid hq
        have H1 := Lib.hid h1
        clear hq h1
        go_wp2_with fail
        refine (D.out x _ (bl_all HBB.out _)).mono ?_
        rintro e w' ⟨rfl, hb'⟩
        rw [HP.out]
        have hb2 := Lib.hid hb'
        clear hb' hx0  hx1  hx2  hx3
        go_wp2_with fail
        go_ret
        exact ⟨ret_bool H1.out.symm, bl_then (bl_all HBB.out _) hb2.out⟩
    · clear hB
      go_wp2_with fail
      go_ret
      refine ⟨ret_bool ?_, HBB.out⟩
      have h1 := hV.out
      rw [show l.drop k = [] from List.drop_eq_nil_of_le (by omega)] at h1
      exact h1.symm
set_option maxRecDepth 10000 in
set_option maxHeartbeats 1000000 in
theorem maySome51 (z : S57) (p : S55 → Bool) (A : Option Addr) (c : Nat) (l : List S55) (w : World) (hr : Kd.C k55 w A l.length l)
    (D : Hid (∀ x v, Below w.heap.size w v → Calls Try.prog 51 #[.agg #[.int .i64 z.f0, .int .i64 z.f1, .int .i64 z.f2.f0, .int .i64 z.f2.f1], .agg #[.int .i64 x.f0, .int .i64 x.f1]] v fun e w' => e = .returned (.bool (p x)) ∧ Below v.heap.size v w')) :
    Calls Try.prog 57 #[.slice A l.length c, .func (.func 51) #[.agg #[.int .i64 z.f0, .int .i64 z.f1, .int .i64 z.f2.f0, .int .i64 z.f2.f1]] #[]] w fun e w' => e = .returned (.bool (l.any (fun x => p x))) ∧ Below w.heap.size w w' := by
  have hu55 := Try.underlying55
  have hu57 := Try.underlying57
  have hl := hr.2.1
  have HR := Lib.hid hr
  clear hr
  obtain ⟨R, hR⟩ : ∃ R, R = l.any (fun x => p x) := ⟨_, rfl⟩
  rw [← hR]
  have HQ := Lib.hid hR
  clear hR
  go_enter Try.func57, Try.ntmps57
  go_wp2_with fail
  go_loopw [9] (fun i wr => ∃ k : Nat, k ≤ l.length ∧ i = .int .i64 k ∧ Veil (R = (l.drop k).any (fun x => p x)) ∧ Below w.heap.size w wr)
    (fun i _ => l.length - (intOf i).toNat)
  case atStart =>
    exact ⟨0, Nat.zero_le _, rfl, ⟨HQ.out⟩, Below.refl _ w⟩
  case round =>
    obtain ⟨k, hk, rfl, hV, hB⟩ := hrel
    have HBB := Lib.hid hB
    by_cases hlt : k < l.length
    · obtain ⟨ad, rfl, hx0, hx1⟩ := at_T55 (Kd.C_below HR.out hB) (k : Int) (by omega) (by omega)
      rw [Int.toNat_natCast] at hx0  hx1
      obtain ⟨x, hx⟩ : ∃ x, rd_T55 l (k : Int) = x := ⟨_, rfl⟩
      rw [hx] at hx0  hx1
      have HX := Lib.hid hx
      have hxk : l[k] = x := by rw [← hx]; unfold rd_T55; simp [List.getD_eq_getElem?_getD, hlt]
      have h1 := hV.out
      rw [List.drop_eq_getElem_cons hlt, List.any_cons, hxk] at h1
      clear hx hB hxk
      cases hq : p x
      case false =>
        rw [hq] at h1
        rw [Bool.false_or] at h1
        have HP := Lib.hid hq
        have H1 := Lib.hid h1
        clear hq h1
        go_wp2_with fail
        refine (D.out x _ (bl_all HBB.out _)).mono ?_
        rintro e w' ⟨rfl, hb'⟩
        rw [HP.out]
        have hb2 := Lib.hid hb'
        clear hb' hx0  hx1
        go_wp2_with fail
        go_roundw
        case rel => exact ⟨k + 1, by omega, by go_num, ⟨H1.out⟩, bl_then (bl_all HBB.out _) hb2.out⟩
        case measure => simp [intOf]; omega
      case true =>
        rw [hq] at h1
        rw [Bool.true_or] at h1
        have HP := Lib.hid hq
        have H1 := Lib.hid h1
        clear hq h1
        go_wp2_with fail
        refine (D.out x _ (bl_all HBB.out _)).mono ?_
        rintro e w' ⟨rfl, hb'⟩
        rw [HP.out]
        have hb2 := Lib.hid hb'
        clear hb' hx0  hx1
        go_wp2_with fail
        go_ret
        exact ⟨ret_bool H1.out.symm, bl_then (bl_all HBB.out _) hb2.out⟩
    · clear hB
      go_wp2_with fail
      go_ret
      refine ⟨ret_bool ?_, HBB.out⟩
      have h1 := hV.out
      rw [show l.drop k = [] from List.drop_eq_nil_of_le (by omega)] at h1
      exact h1.symm
theorem may52_keep {l : List S57} {ad : Addr} {c0 k g4 g5 g9 g10 : Nat} {w v v' : World} (hb : Below v.heap.size v v') (h : (v.cell? ⟨g4, 0, none⟩ = some (.slice (some ad) l.length c0) ∧ v.cell? ⟨g5, 0, none⟩ = some (.int .i64 (k : Int)) ∧ v.cell? ⟨g10, 0, none⟩ = some (.func (.func 50) #[] #[.pointer (some ⟨g9, 0, none⟩)])) ∧ (v.heap[g4]? = some (.cells #[.slice (some ad) l.length c0] 51 (0, 0)) ∧ v.heap[g5]? = some (.cells #[.int .i64 (k : Int)] 3 (0, 0)) ∧ v.heap[g10]? = some (.cells #[.func (.func 50) #[] #[.pointer (some ⟨g9, 0, none⟩)]] 78 (0, 0))) ∧ Below w.heap.size w v) : (v'.cell? ⟨g4, 0, none⟩ = some (.slice (some ad) l.length c0) ∧ v'.cell? ⟨g5, 0, none⟩ = some (.int .i64 (k : Int)) ∧ v'.cell? ⟨g10, 0, none⟩ = some (.func (.func 50) #[] #[.pointer (some ⟨g9, 0, none⟩)])) ∧ (v'.heap[g4]? = some (.cells #[.slice (some ad) l.length c0] 51 (0, 0)) ∧ v'.heap[g5]? = some (.cells #[.int .i64 (k : Int)] 3 (0, 0)) ∧ v'.heap[g10]? = some (.cells #[.func (.func 50) #[] #[.pointer (some ⟨g9, 0, none⟩)]] 78 (0, 0))) ∧ Below w.heap.size w v' :=
  ⟨⟨blk_cell (keep_at_all h.2.1.1 hb) 0, blk_cell (keep_at_all h.2.1.2.1 hb) 0, blk_cell (keep_at_all h.2.1.2.2 hb) 0⟩, ⟨keep_at_all h.2.1.1 hb, keep_at_all h.2.1.2.1 hb, keep_at_all h.2.1.2.2 hb⟩, bl_then h.2.2 hb⟩
set_option maxRecDepth 10000 in
set_option maxHeartbeats 1000000 in
theorem may52 (x : S57) (l : List S57) (A0 : Option Addr) (c0 : Nat) (k : Nat) (g4 g5 g9 g10 : Nat) (w : World) (h4 : w.heap[g4]? = some (.cells #[.slice A0 l.length c0] 51 (0, 0))) (h5 : w.heap[g5]? = some (.cells #[.int .i64 (k : Int)] 3 (0, 0))) (h9 : w.heap[g9]? = some (.cells #[.int .i64 x.f0, .int .i64 x.f1, .int .i64 x.f2.f0, .int .i64 x.f2.f1] 57 (0, 0))) (h10 : w.heap[g10]? = some (.cells #[.func (.func 50) #[] #[.pointer (some ⟨g9, 0, none⟩)]] 78 (0, 0))) (hr : Kd.C k57 w A0 l.length l) (hk : k < l.length) (hc : l.length ≤ c0) :
    Calls Try.prog 52 #[.pointer (some ⟨g4, 0, none⟩), .pointer (some ⟨g5, 0, none⟩), .pointer (some ⟨g10, 0, none⟩)] w fun e w' => e = .returned (.bool ((l.take k).any fun y => y.f1 == 1 && mayOv x.f2 y.f2)) ∧ Below w.heap.size w w' := by
  obtain ⟨ad, rfl, _⟩ := hr.2.2 (by omega)
  have hkl : (l.take k).length = k := by rw [List.length_take]; omega
  have D0 : ∀ v, Below w.heap.size w v → Calls Try.prog 53 #[.slice (some ad) k c0, .func (.func 50) #[] #[.pointer (some ⟨g9, 0, none⟩)]] v fun e w' => e = .returned (.bool ((l.take k).any fun y => y.f1 == 1 && mayOv x.f2 y.f2)) ∧ Below v.heap.size v w' := by
    intro v hv
    have := mayWrites50 g9 (fun y => mayOv x.f2 y.f2) (some ad) c0 (l.take k) v (Kd.C_take (Kd.C_below hr hv) (by omega)) (fun y u hu => may50 x y g9 u (keep_at_all (keep_at_all h9 hv) hu))
    rwa [hkl] at this
  have D := Lib.hid D0
  have hS0 : (w.cell? ⟨g4, 0, none⟩ = some (.slice (some ad) l.length c0) ∧ w.cell? ⟨g5, 0, none⟩ = some (.int .i64 (k : Int)) ∧ w.cell? ⟨g10, 0, none⟩ = some (.func (.func 50) #[] #[.pointer (some ⟨g9, 0, none⟩)])) ∧ (w.heap[g4]? = some (.cells #[.slice (some ad) l.length c0] 51 (0, 0)) ∧ w.heap[g5]? = some (.cells #[.int .i64 (k : Int)] 3 (0, 0)) ∧ w.heap[g10]? = some (.cells #[.func (.func 50) #[] #[.pointer (some ⟨g9, 0, none⟩)]] 78 (0, 0))) ∧ Below w.heap.size w w := ⟨⟨blk_cell h4 0, blk_cell h5 0, blk_cell h10 0⟩, ⟨h4, h5, h10⟩, Below.refl _ _⟩
  have hk1 : (k : Int) ≤ (c0 : Int) := by omega
  have hk2 : k ≤ c0 := by omega
  have hk0 : (0 : Int) ≤ (k : Int) := by omega
  clear D0 h4 h5 h9 h10 hr hc hkl hk
  go_enter Try.func52, Try.ntmps52
  go_wp2_with fail
  go_region_held3 (fun v => (v.cell? ⟨g4, 0, none⟩ = some (.slice (some ad) l.length c0) ∧ v.cell? ⟨g5, 0, none⟩ = some (.int .i64 (k : Int)) ∧ v.cell? ⟨g10, 0, none⟩ = some (.func (.func 50) #[] #[.pointer (some ⟨g9, 0, none⟩)])) ∧ (v.heap[g4]? = some (.cells #[.slice (some ad) l.length c0] 51 (0, 0)) ∧ v.heap[g5]? = some (.cells #[.int .i64 (k : Int)] 3 (0, 0)) ∧ v.heap[g10]? = some (.cells #[.func (.func 50) #[] #[.pointer (some ⟨g9, 0, none⟩)]] 78 (0, 0))) ∧ Below w.heap.size w v) (first | (with_reducible assumption) | (refine may52_keep (v := w) (Below.drew (Below.refl _ _)) ?_; with_reducible assumption) | (apply may52_keep <;> with_reducible assumption))
    (first | (go_at_call 53; with_reducible refine (D.out _ ?_).mono ?_; (exact (And.right (And.right (by with_reducible assumption)))); rintro e w3 ⟨rfl, hb3⟩))
  rename_i hH
  have HB := Lib.hid hH.2.2
  clear hH hS0
  go_wp2_with fail
  go_ret
  exact ⟨rfl, HB.out⟩
set_option maxRecDepth 10000 in
theorem may54 (x : S57) (f : List S57) (A2 : Option Addr) (c2 : Nat) (g6 g9 g10 : Nat) (w : World) (h6 : w.heap[g6]? = some (.cells #[.slice A2 f.length c2] 51 (0, 0))) (h9 : w.heap[g9]? = some (.cells #[.int .i64 x.f0, .int .i64 x.f1, .int .i64 x.f2.f0, .int .i64 x.f2.f1] 57 (0, 0))) (h10 : w.heap[g10]? = some (.cells #[.func (.func 50) #[] #[.pointer (some ⟨g9, 0, none⟩)]] 78 (0, 0))) (hf : Kd.C k57 w A2 f.length f) :
    Calls Try.prog 54 #[.pointer (some ⟨g6, 0, none⟩), .pointer (some ⟨g10, 0, none⟩)] w fun e w' => e = .returned (.bool (f.any fun y => mayOv x.f2 y.f2)) ∧ Below w.heap.size w w' := by
  have hu55 := Try.underlying55
  have hu57 := Try.underlying57
  have c6 : w.cell? ⟨g6, 0, none⟩ = some (.slice A2 f.length c2) := blk_cell h6 0
  have c10 : w.cell? ⟨g10, 0, none⟩ = some (.func (.func 50) #[] #[.pointer (some ⟨g9, 0, none⟩)]) := blk_cell h10 0
  have D := Lib.hid (maySome50 g9 (fun y => mayOv x.f2 y.f2) A2 c2 f w hf (fun y u hu => may50 x y g9 u (keep_at_all h9 hu)))
  clear h6 h9 h10
  go_enter Try.func54, Try.ntmps54
  go_wp2_with fail
  refine (D).out.mono ?_
  rintro e w3 ⟨rfl, hb3⟩
  go_wp2_with fail
  go_ret
  exact ⟨rfl, hb3⟩
set_option maxRecDepth 10000 in
theorem may56 (x : S57) (s : List S55) (A3 : Option Addr) (c3 : Nat) (g7 g9 : Nat) (w : World) (h7 : w.heap[g7]? = some (.cells #[.slice A3 s.length c3] 61 (0, 0))) (h9 : w.heap[g9]? = some (.cells #[.int .i64 x.f0, .int .i64 x.f1, .int .i64 x.f2.f0, .int .i64 x.f2.f1] 57 (0, 0))) (hs : Kd.C k55 w A3 s.length s) :
    Calls Try.prog 56 #[.pointer (some ⟨g7, 0, none⟩), .pointer (some ⟨g9, 0, none⟩)] w fun e w' => e = .returned (.bool (s.any fun y => mayOv x.f2 y)) ∧ Below w.heap.size w w' := by
  have hu55 := Try.underlying55
  have hu57 := Try.underlying57
  have c7 : w.cell? ⟨g7, 0, none⟩ = some (.slice A3 s.length c3) := blk_cell h7 0
  have c90 : w.cell? ⟨g9, 0, none⟩ = some (.int .i64 x.f0) := blk_cell h9 0
  have c91 : w.cell? ⟨g9, 1, none⟩ = some (.int .i64 x.f1) := blk_cell h9 1
  have c92 : w.cell? ⟨g9, 2, none⟩ = some (.int .i64 x.f2.f0) := blk_cell h9 2
  have c93 : w.cell? ⟨g9, 3, none⟩ = some (.int .i64 x.f2.f1) := blk_cell h9 3
  have hmf : ∀ (fn : Fn) (first cap : Array Value) (w : World), (Instr.makeFunc fn first cap).run Try.prog w = .ok (.func fn first cap) w := fun _ _ _ _ => rfl
  have D := Lib.hid (maySome51 x (fun y => mayOv x.f2 y) A3 c3 s w hs (fun y u hu => may51 x y u))
  clear h7 h9
  go_enter Try.func56, Try.ntmps56
  go_wp2_with fail
  refine (D).out.mono ?_
  rintro e w3 ⟨rfl, hb3⟩
  go_wp2_with fail
  go_ret
  exact ⟨rfl, hb3⟩
set_option maxRecDepth 10000 in
theorem may61 (x : S57) (f : List S57) (A2 : Option Addr) (c2 : Nat) (g6 g9 : Nat) (w : World) (h6 : w.heap[g6]? = some (.cells #[.slice A2 f.length c2] 51 (0, 0))) (h9 : w.heap[g9]? = some (.cells #[.int .i64 x.f0, .int .i64 x.f1, .int .i64 x.f2.f0, .int .i64 x.f2.f1] 57 (0, 0))) (hf : Kd.C k57 w A2 f.length f) :
    Calls Try.prog 61 #[.pointer (some ⟨g6, 0, none⟩), .pointer (some ⟨g9, 0, none⟩)] w fun e w' => e = .returned (.bool (f.any fun y => decide (y.f0 < x.f0))) ∧ Below w.heap.size w w' := by
  have hu55 := Try.underlying55
  have hu57 := Try.underlying57
  have c6 : w.cell? ⟨g6, 0, none⟩ = some (.slice A2 f.length c2) := blk_cell h6 0
  have hmf : ∀ (fn : Fn) (first cap : Array Value) (w : World), (Instr.makeFunc fn first cap).run Try.prog w = .ok (.func fn first cap) w := fun _ _ _ _ => rfl
  have D := Lib.hid (maySome62 g9 (fun y => decide (y.f0 < x.f0)) A2 c2 f w hf (fun y u hu => may62 x y g9 u (keep_at_all h9 hu)))
  clear h6 h9
  go_enter Try.func61, Try.ntmps61
  go_wp2_with fail
  refine (D).out.mono ?_
  rintro e w3 ⟨rfl, hb3⟩
  go_wp2_with fail
  go_ret
  exact ⟨rfl, hb3⟩
set_option maxRecDepth 10000 in
theorem may59 (l : List S57) (A0 : Option Addr) (c0 : Nat) (k : Nat) (g4 g5 : Nat) (w : World) (h4 : w.heap[g4]? = some (.cells #[.slice A0 l.length c0] 51 (0, 0))) (h5 : w.heap[g5]? = some (.cells #[.int .i64 (k : Int)] 3 (0, 0))) (hr : Kd.C k57 w A0 l.length l) (hk : k < l.length) (hc : l.length ≤ c0) :
    Calls Try.prog 59 #[.pointer (some ⟨g4, 0, none⟩), .pointer (some ⟨g5, 0, none⟩)] w fun e w' => e = .returned (.bool ((l.take k).any fun y => y.f1 == 1)) ∧ Below w.heap.size w w' := by
  obtain ⟨ad, rfl, _⟩ := hr.2.2 (by omega)
  have hu55 := Try.underlying55
  have hu57 := Try.underlying57
  have c4 : w.cell? ⟨g4, 0, none⟩ = some (.slice (some ad) l.length c0) := blk_cell h4 0
  have c5 : w.cell? ⟨g5, 0, none⟩ = some (.int .i64 (k : Int)) := blk_cell h5 0
  have hkl : (l.take k).length = k := by rw [List.length_take]; omega
  have hk1 : (k : Int) ≤ (c0 : Int) := by omega
  have hk2 : k ≤ c0 := by omega
  have hk0 : (0 : Int) ≤ (k : Int) := by omega
  have D0 : Calls Try.prog 53 #[.slice (some ad) k c0, .func (.func 60) #[] #[]] w fun e w' => e = .returned (.bool ((l.take k).any fun y => y.f1 == 1)) ∧ Below w.heap.size w w' := by
    have := mayWrites60 (fun _ => true) (some ad) c0 (l.take k) w (Kd.C_take hr (by omega)) (fun y u hu => may60 y u)
    simp only [Bool.and_true] at this
    rwa [hkl] at this
  have D := Lib.hid D0
  clear D0 hkl hk hr hc
  clear h4 h5
  go_enter Try.func59, Try.ntmps59
  go_wp2_with fail
  refine (D).out.mono ?_
  rintro e w3 ⟨rfl, hb3⟩
  go_wp2_with fail
  go_ret
  exact ⟨rfl, hb3⟩
set_option maxRecDepth 10000 in
set_option maxHeartbeats 1000000 in
theorem mayNoneR (g4 g5 g6 g10 : Nat) (b : Nat) (q0 q1 : Bool) (w : World) (hb : w.heap[b]? = some (.cells #[.func (.func 52) #[] #[.pointer (some ⟨g4, 0, none⟩), .pointer (some ⟨g5, 0, none⟩), .pointer (some ⟨g10, 0, none⟩)], .func (.func 54) #[] #[.pointer (some ⟨g6, 0, none⟩), .pointer (some ⟨g10, 0, none⟩)]] 30 (0, 0))) (D0 : Hid (∀ v, Below w.heap.size w v → Calls Try.prog 52 #[.pointer (some ⟨g4, 0, none⟩), .pointer (some ⟨g5, 0, none⟩), .pointer (some ⟨g10, 0, none⟩)] v fun e w' => e = .returned (.bool q0) ∧ Below v.heap.size v w')) (D1 : Hid (∀ v, Below w.heap.size w v → Calls Try.prog 54 #[.pointer (some ⟨g6, 0, none⟩), .pointer (some ⟨g10, 0, none⟩)] v fun e w' => e = .returned (.bool q1) ∧ Below v.heap.size v w')) :
    Calls Try.prog 58 #[.slice (some ⟨b, 0, none⟩) 2 2] w fun e w' => e = .returned (.bool (!q0 && !q1)) ∧ Below w.heap.size w w' := by
  have H0 := Lib.hid hb
  have c0 : w.cell? ⟨b, 0, none⟩ = some (.func (.func 52) #[] #[.pointer (some ⟨g4, 0, none⟩), .pointer (some ⟨g5, 0, none⟩), .pointer (some ⟨g10, 0, none⟩)]) := blk_cell hb 0
  have c1 : w.cell? ⟨b, 1, none⟩ = some (.func (.func 54) #[] #[.pointer (some ⟨g6, 0, none⟩), .pointer (some ⟨g10, 0, none⟩)]) := blk_cell hb 1
  clear hb
  go_enter Try.func58, Try.ntmps58
  go_wp2_with fail
  refine wp_loop_rounds 3 ?_
  rw [rounds_succ]
  go_wp2_with fail
  refine (D0.out _ (Below.refl _ _)).mono ?_
  rintro e w1 ⟨rfl, hb1⟩
  have HB1 := Lib.hid (bl_then (Below.refl _ _) hb1)
  clear c0 c1 hb1
  cases q0
  case true =>
    go_wp2_with fail
    go_ret
    exact ⟨ret_bool (by simp), HB1.out⟩
  have c0 : w1.cell? ⟨b, 0, none⟩ = some (.func (.func 52) #[] #[.pointer (some ⟨g4, 0, none⟩), .pointer (some ⟨g5, 0, none⟩), .pointer (some ⟨g10, 0, none⟩)]) := blk_cell (keep_at_all H0.out HB1.out) 0
  have c1 : w1.cell? ⟨b, 1, none⟩ = some (.func (.func 54) #[] #[.pointer (some ⟨g6, 0, none⟩), .pointer (some ⟨g10, 0, none⟩)]) := blk_cell (keep_at_all H0.out HB1.out) 1
  go_wp2_with fail
  rw [rounds_succ]
  go_wp2_with fail
  refine (D1.out _ (HB1.out)).mono ?_
  rintro e w2 ⟨rfl, hb2⟩
  have HB2 := Lib.hid (bl_then (HB1.out) hb2)
  clear c0 c1 hb2
  cases q1
  case true =>
    go_wp2_with fail
    go_ret
    exact ⟨ret_bool (by simp), HB2.out⟩
  go_wp2_with fail
  rw [rounds_succ]
  go_wp2_with fail
  go_ret
  exact ⟨rfl, HB2.out⟩
set_option maxRecDepth 10000 in
set_option maxHeartbeats 1000000 in
theorem mayNoneW (g4 g5 g6 g7 g9 g10 : Nat) (b : Nat) (q0 q1 q2 : Bool) (w : World) (hb : w.heap[b]? = some (.cells #[.func (.func 52) #[] #[.pointer (some ⟨g4, 0, none⟩), .pointer (some ⟨g5, 0, none⟩), .pointer (some ⟨g10, 0, none⟩)], .func (.func 54) #[] #[.pointer (some ⟨g6, 0, none⟩), .pointer (some ⟨g10, 0, none⟩)], .func (.func 56) #[] #[.pointer (some ⟨g7, 0, none⟩), .pointer (some ⟨g9, 0, none⟩)]] 30 (0, 0))) (D0 : Hid (∀ v, Below w.heap.size w v → Calls Try.prog 52 #[.pointer (some ⟨g4, 0, none⟩), .pointer (some ⟨g5, 0, none⟩), .pointer (some ⟨g10, 0, none⟩)] v fun e w' => e = .returned (.bool q0) ∧ Below v.heap.size v w')) (D1 : Hid (∀ v, Below w.heap.size w v → Calls Try.prog 54 #[.pointer (some ⟨g6, 0, none⟩), .pointer (some ⟨g10, 0, none⟩)] v fun e w' => e = .returned (.bool q1) ∧ Below v.heap.size v w')) (D2 : Hid (∀ v, Below w.heap.size w v → Calls Try.prog 56 #[.pointer (some ⟨g7, 0, none⟩), .pointer (some ⟨g9, 0, none⟩)] v fun e w' => e = .returned (.bool q2) ∧ Below v.heap.size v w')) :
    Calls Try.prog 58 #[.slice (some ⟨b, 0, none⟩) 3 3] w fun e w' => e = .returned (.bool (!q0 && !q1 && !q2)) ∧ Below w.heap.size w w' := by
  have H0 := Lib.hid hb
  have c0 : w.cell? ⟨b, 0, none⟩ = some (.func (.func 52) #[] #[.pointer (some ⟨g4, 0, none⟩), .pointer (some ⟨g5, 0, none⟩), .pointer (some ⟨g10, 0, none⟩)]) := blk_cell hb 0
  have c1 : w.cell? ⟨b, 1, none⟩ = some (.func (.func 54) #[] #[.pointer (some ⟨g6, 0, none⟩), .pointer (some ⟨g10, 0, none⟩)]) := blk_cell hb 1
  have c2 : w.cell? ⟨b, 2, none⟩ = some (.func (.func 56) #[] #[.pointer (some ⟨g7, 0, none⟩), .pointer (some ⟨g9, 0, none⟩)]) := blk_cell hb 2
  clear hb
  go_enter Try.func58, Try.ntmps58
  go_wp2_with fail
  refine wp_loop_rounds 4 ?_
  rw [rounds_succ]
  go_wp2_with fail
  refine (D0.out _ (Below.refl _ _)).mono ?_
  rintro e w1 ⟨rfl, hb1⟩
  have HB1 := Lib.hid (bl_then (Below.refl _ _) hb1)
  clear c0 c1 c2 hb1
  cases q0
  case true =>
    go_wp2_with fail
    go_ret
    exact ⟨ret_bool (by simp), HB1.out⟩
  have c0 : w1.cell? ⟨b, 0, none⟩ = some (.func (.func 52) #[] #[.pointer (some ⟨g4, 0, none⟩), .pointer (some ⟨g5, 0, none⟩), .pointer (some ⟨g10, 0, none⟩)]) := blk_cell (keep_at_all H0.out HB1.out) 0
  have c1 : w1.cell? ⟨b, 1, none⟩ = some (.func (.func 54) #[] #[.pointer (some ⟨g6, 0, none⟩), .pointer (some ⟨g10, 0, none⟩)]) := blk_cell (keep_at_all H0.out HB1.out) 1
  have c2 : w1.cell? ⟨b, 2, none⟩ = some (.func (.func 56) #[] #[.pointer (some ⟨g7, 0, none⟩), .pointer (some ⟨g9, 0, none⟩)]) := blk_cell (keep_at_all H0.out HB1.out) 2
  go_wp2_with fail
  rw [rounds_succ]
  go_wp2_with fail
  refine (D1.out _ (HB1.out)).mono ?_
  rintro e w2 ⟨rfl, hb2⟩
  have HB2 := Lib.hid (bl_then (HB1.out) hb2)
  clear c0 c1 c2 hb2
  cases q1
  case true =>
    go_wp2_with fail
    go_ret
    exact ⟨ret_bool (by simp), HB2.out⟩
  have c0 : w2.cell? ⟨b, 0, none⟩ = some (.func (.func 52) #[] #[.pointer (some ⟨g4, 0, none⟩), .pointer (some ⟨g5, 0, none⟩), .pointer (some ⟨g10, 0, none⟩)]) := blk_cell (keep_at_all H0.out HB2.out) 0
  have c1 : w2.cell? ⟨b, 1, none⟩ = some (.func (.func 54) #[] #[.pointer (some ⟨g6, 0, none⟩), .pointer (some ⟨g10, 0, none⟩)]) := blk_cell (keep_at_all H0.out HB2.out) 1
  have c2 : w2.cell? ⟨b, 2, none⟩ = some (.func (.func 56) #[] #[.pointer (some ⟨g7, 0, none⟩), .pointer (some ⟨g9, 0, none⟩)]) := blk_cell (keep_at_all H0.out HB2.out) 2
  go_wp2_with fail
  rw [rounds_succ]
  go_wp2_with fail
  refine (D2.out _ (HB2.out)).mono ?_
  rintro e w3 ⟨rfl, hb3⟩
  have HB3 := Lib.hid (bl_then (HB2.out) hb3)
  clear c0 c1 c2 hb3
  cases q2
  case true =>
    go_wp2_with fail
    go_ret
    exact ⟨ret_bool (by simp), HB3.out⟩
  go_wp2_with fail
  rw [rounds_succ]
  go_wp2_with fail
  go_ret
  exact ⟨rfl, HB3.out⟩
set_option maxRecDepth 10000 in
set_option maxHeartbeats 1000000 in
theorem mayNoneF (g4 g5 g6 g9 : Nat) (b : Nat) (q0 q1 : Bool) (w : World) (hb : w.heap[b]? = some (.cells #[.func (.func 59) #[] #[.pointer (some ⟨g4, 0, none⟩), .pointer (some ⟨g5, 0, none⟩)], .func (.func 61) #[] #[.pointer (some ⟨g6, 0, none⟩), .pointer (some ⟨g9, 0, none⟩)]] 30 (0, 0))) (D0 : Hid (∀ v, Below w.heap.size w v → Calls Try.prog 59 #[.pointer (some ⟨g4, 0, none⟩), .pointer (some ⟨g5, 0, none⟩)] v fun e w' => e = .returned (.bool q0) ∧ Below v.heap.size v w')) (D1 : Hid (∀ v, Below w.heap.size w v → Calls Try.prog 61 #[.pointer (some ⟨g6, 0, none⟩), .pointer (some ⟨g9, 0, none⟩)] v fun e w' => e = .returned (.bool q1) ∧ Below v.heap.size v w')) :
    Calls Try.prog 58 #[.slice (some ⟨b, 0, none⟩) 2 2] w fun e w' => e = .returned (.bool (!q0 && !q1)) ∧ Below w.heap.size w w' := by
  have H0 := Lib.hid hb
  have c0 : w.cell? ⟨b, 0, none⟩ = some (.func (.func 59) #[] #[.pointer (some ⟨g4, 0, none⟩), .pointer (some ⟨g5, 0, none⟩)]) := blk_cell hb 0
  have c1 : w.cell? ⟨b, 1, none⟩ = some (.func (.func 61) #[] #[.pointer (some ⟨g6, 0, none⟩), .pointer (some ⟨g9, 0, none⟩)]) := blk_cell hb 1
  clear hb
  go_enter Try.func58, Try.ntmps58
  go_wp2_with fail
  refine wp_loop_rounds 3 ?_
  rw [rounds_succ]
  go_wp2_with fail
  refine (D0.out _ (Below.refl _ _)).mono ?_
  rintro e w1 ⟨rfl, hb1⟩
  have HB1 := Lib.hid (bl_then (Below.refl _ _) hb1)
  clear c0 c1 hb1
  cases q0
  case true =>
    go_wp2_with fail
    go_ret
    exact ⟨ret_bool (by simp), HB1.out⟩
  have c0 : w1.cell? ⟨b, 0, none⟩ = some (.func (.func 59) #[] #[.pointer (some ⟨g4, 0, none⟩), .pointer (some ⟨g5, 0, none⟩)]) := blk_cell (keep_at_all H0.out HB1.out) 0
  have c1 : w1.cell? ⟨b, 1, none⟩ = some (.func (.func 61) #[] #[.pointer (some ⟨g6, 0, none⟩), .pointer (some ⟨g9, 0, none⟩)]) := blk_cell (keep_at_all H0.out HB1.out) 1
  go_wp2_with fail
  rw [rounds_succ]
  go_wp2_with fail
  refine (D1.out _ (HB1.out)).mono ?_
  rintro e w2 ⟨rfl, hb2⟩
  have HB2 := Lib.hid (bl_then (HB1.out) hb2)
  clear c0 c1 hb2
  cases q1
  case true =>
    go_wp2_with fail
    go_ret
    exact ⟨ret_bool (by simp), HB2.out⟩
  go_wp2_with fail
  rw [rounds_succ]
  go_wp2_with fail
  go_ret
  exact ⟨rfl, HB2.out⟩
theorem mayEnvR (x : S57) (l f : List S57) (s : List S55) (A0 A2 A3 : Option Addr) (c0 c2 c3 k : Nat) (g4 g5 g6 g7 g9 g10 b : Nat) (w : World) (h4 : w.heap[g4]? = some (.cells #[.slice A0 l.length c0] 51 (0, 0))) (h5 : w.heap[g5]? = some (.cells #[.int .i64 (k : Int)] 3 (0, 0))) (h6 : w.heap[g6]? = some (.cells #[.slice A2 f.length c2] 51 (0, 0))) (h7 : w.heap[g7]? = some (.cells #[.slice A3 s.length c3] 61 (0, 0))) (h9 : w.heap[g9]? = some (.cells #[.int .i64 x.f0, .int .i64 x.f1, .int .i64 x.f2.f0, .int .i64 x.f2.f1] 57 (0, 0))) (h10 : w.heap[g10]? = some (.cells #[.func (.func 50) #[] #[.pointer (some ⟨g9, 0, none⟩)]] 78 (0, 0))) (hr : Kd.C k57 w A0 l.length l) (hk : k < l.length) (hc : l.length ≤ c0) (hf : Kd.C k57 w A2 f.length f) (hs : Kd.C k55 w A3 s.length s) (hb : w.heap[b]? = some (.cells #[.func (.func 52) #[] #[.pointer (some ⟨g4, 0, none⟩), .pointer (some ⟨g5, 0, none⟩), .pointer (some ⟨g10, 0, none⟩)], .func (.func 54) #[] #[.pointer (some ⟨g6, 0, none⟩), .pointer (some ⟨g10, 0, none⟩)]] 30 (0, 0))) :
    Calls Try.prog 58 #[.slice (some ⟨b, 0, none⟩) 2 2] w fun e w' => e = .returned (.bool (!((l.take k).any fun y => y.f1 == 1 && mayOv x.f2 y.f2) && !(f.any fun y => mayOv x.f2 y.f2))) ∧ Below w.heap.size w w' :=
  mayNoneR g4 g5 g6 g10 b _ _ w hb (Lib.hid fun v hv => may52 x l A0 c0 k g4 g5 g9 g10 v (keep_at_all h4 hv) (keep_at_all h5 hv) (keep_at_all h9 hv) (keep_at_all h10 hv) (Kd.C_below hr hv) hk hc)
    (Lib.hid fun v hv => may54 x f A2 c2 g6 g9 g10 v (keep_at_all h6 hv) (keep_at_all h9 hv) (keep_at_all h10 hv) (Kd.C_below hf hv))
theorem mayEnvW (x : S57) (l f : List S57) (s : List S55) (A0 A2 A3 : Option Addr) (c0 c2 c3 k : Nat) (g4 g5 g6 g7 g9 g10 b : Nat) (w : World) (h4 : w.heap[g4]? = some (.cells #[.slice A0 l.length c0] 51 (0, 0))) (h5 : w.heap[g5]? = some (.cells #[.int .i64 (k : Int)] 3 (0, 0))) (h6 : w.heap[g6]? = some (.cells #[.slice A2 f.length c2] 51 (0, 0))) (h7 : w.heap[g7]? = some (.cells #[.slice A3 s.length c3] 61 (0, 0))) (h9 : w.heap[g9]? = some (.cells #[.int .i64 x.f0, .int .i64 x.f1, .int .i64 x.f2.f0, .int .i64 x.f2.f1] 57 (0, 0))) (h10 : w.heap[g10]? = some (.cells #[.func (.func 50) #[] #[.pointer (some ⟨g9, 0, none⟩)]] 78 (0, 0))) (hr : Kd.C k57 w A0 l.length l) (hk : k < l.length) (hc : l.length ≤ c0) (hf : Kd.C k57 w A2 f.length f) (hs : Kd.C k55 w A3 s.length s) (hb : w.heap[b]? = some (.cells #[.func (.func 52) #[] #[.pointer (some ⟨g4, 0, none⟩), .pointer (some ⟨g5, 0, none⟩), .pointer (some ⟨g10, 0, none⟩)], .func (.func 54) #[] #[.pointer (some ⟨g6, 0, none⟩), .pointer (some ⟨g10, 0, none⟩)], .func (.func 56) #[] #[.pointer (some ⟨g7, 0, none⟩), .pointer (some ⟨g9, 0, none⟩)]] 30 (0, 0))) :
    Calls Try.prog 58 #[.slice (some ⟨b, 0, none⟩) 3 3] w fun e w' => e = .returned (.bool (!((l.take k).any fun y => y.f1 == 1 && mayOv x.f2 y.f2) && !(f.any fun y => mayOv x.f2 y.f2) && !(s.any fun y => mayOv x.f2 y))) ∧ Below w.heap.size w w' :=
  mayNoneW g4 g5 g6 g7 g9 g10 b _ _ _ w hb (Lib.hid fun v hv => may52 x l A0 c0 k g4 g5 g9 g10 v (keep_at_all h4 hv) (keep_at_all h5 hv) (keep_at_all h9 hv) (keep_at_all h10 hv) (Kd.C_below hr hv) hk hc)
    (Lib.hid fun v hv => may54 x f A2 c2 g6 g9 g10 v (keep_at_all h6 hv) (keep_at_all h9 hv) (keep_at_all h10 hv) (Kd.C_below hf hv))
    (Lib.hid fun v hv => may56 x s A3 c3 g7 g9 v (keep_at_all h7 hv) (keep_at_all h9 hv) (Kd.C_below hs hv))
theorem mayEnvF (x : S57) (l f : List S57) (s : List S55) (A0 A2 A3 : Option Addr) (c0 c2 c3 k : Nat) (g4 g5 g6 g7 g9 g10 b : Nat) (w : World) (h4 : w.heap[g4]? = some (.cells #[.slice A0 l.length c0] 51 (0, 0))) (h5 : w.heap[g5]? = some (.cells #[.int .i64 (k : Int)] 3 (0, 0))) (h6 : w.heap[g6]? = some (.cells #[.slice A2 f.length c2] 51 (0, 0))) (h7 : w.heap[g7]? = some (.cells #[.slice A3 s.length c3] 61 (0, 0))) (h9 : w.heap[g9]? = some (.cells #[.int .i64 x.f0, .int .i64 x.f1, .int .i64 x.f2.f0, .int .i64 x.f2.f1] 57 (0, 0))) (h10 : w.heap[g10]? = some (.cells #[.func (.func 50) #[] #[.pointer (some ⟨g9, 0, none⟩)]] 78 (0, 0))) (hr : Kd.C k57 w A0 l.length l) (hk : k < l.length) (hc : l.length ≤ c0) (hf : Kd.C k57 w A2 f.length f) (hs : Kd.C k55 w A3 s.length s) (hb : w.heap[b]? = some (.cells #[.func (.func 59) #[] #[.pointer (some ⟨g4, 0, none⟩), .pointer (some ⟨g5, 0, none⟩)], .func (.func 61) #[] #[.pointer (some ⟨g6, 0, none⟩), .pointer (some ⟨g9, 0, none⟩)]] 30 (0, 0))) :
    Calls Try.prog 58 #[.slice (some ⟨b, 0, none⟩) 2 2] w fun e w' => e = .returned (.bool (!((l.take k).any fun y => y.f1 == 1) && !(f.any fun y => decide (y.f0 < x.f0)))) ∧ Below w.heap.size w w' :=
  mayNoneF g4 g5 g6 g9 b _ _ w hb (Lib.hid fun v hv => may59 l A0 c0 k g4 g5 v (keep_at_all h4 hv) (keep_at_all h5 hv) (Kd.C_below hr hv) hk hc)
    (Lib.hid fun v hv => may61 x f A2 c2 g6 g9 v (keep_at_all h6 hv) (keep_at_all h9 hv) (Kd.C_below hf hv))
theorem new_at_n (w : World) (o : Obj) (n : Nat) (h : n = w.heap.size) : (w.alloc o).heap[n]? = some o := by subst h; exact new_at w o
def mayIn (l : List S57) (k : Nat) (f : List S57) (s : List S55) (x : S57) : Bool :=
  if x.f1 = 0 then (!((l.take k).any fun y => y.f1 == 1 && mayOv x.f2 y.f2) && !(f.any fun y => mayOv x.f2 y.f2)) else if x.f1 = 1 then (!((l.take k).any fun y => y.f1 == 1 && mayOv x.f2 y.f2) && !(f.any fun y => mayOv x.f2 y.f2) && !(s.any fun y => mayOv x.f2 y)) else if x.f1 = 2 then (!((l.take k).any fun y => y.f1 == 1) && !(f.any fun y => decide (y.f0 < x.f0))) else false

set_option maxRecDepth 20000 in
set_option maxHeartbeats 4000000 in
theorem may40_in (x : S57) (l f : List S57) (s : List S55) (A0 A2 A3 : Option Addr) (c0 c2 c3 k : Nat) (w : World) (hr : Kd.C k57 w A0 l.length l) (hk : k < l.length) (hc : l.length ≤ c0) (hf : Kd.C k57 w A2 f.length f) (hs : Kd.C k55 w A3 s.length s) (hx : l[k] = x) :
    Calls Try.prog 40 #[.slice A0 l.length c0, .int .i64 (k : Int), .slice A2 f.length c2, .slice A3 s.length c3] w fun e w' => e = .returned (.bool (mayIn l k f s x)) ∧ Below w.heap.size w w' := by
  have hu55 := Try.underlying55
  have hu57 := Try.underlying57
  have hmf : ∀ (fn : Fn) (first cap : Array Value) (w : World), (Instr.makeFunc fn first cap).run Try.prog w = .ok (.func fn first cap) w := fun _ _ _ _ => rfl
  have hst : ∀ (fn : Fn) (p q : Array Value) (a : Addr) (m : Mode) (w : World), (store a (.func fn p q) m).run Try.prog w = stored Try.prog w a (.func fn p q) m := fun _ _ _ _ _ _ => run_store _ _ _ _ _ rfl
  obtain ⟨ad, rfl, h0, h1, h2, h3⟩ := at_T57 hr (k : Int) (by omega) (by omega)
  have hrd : rd_T57 l (k : Int) = x := by rw [← hx]; unfold rd_T57; simp [List.getD_eq_getElem?_getD, hk]
  rw [Int.toNat_natCast, hrd] at h0 h1 h2 h3
  have hB4 : ∀ a b c d, Below w.heap.size w ((((w.alloc a).alloc b).alloc c).alloc d) := fun a b c d => bl_all (bl_all (bl_all (bl_all (Below.refl _ _) _) _) _) _
  have hx0 : ∀ a b c d, ((((w.alloc a).alloc b).alloc c).alloc d).cell? (ad.add (k * 4)) = some (.int .i64 x.f0) := fun a b c d => ((hB4 a b c d).cell (World.block_lt_of_cell? w _ h0)).trans h0
  have hx1 : ∀ a b c d, ((((w.alloc a).alloc b).alloc c).alloc d).cell? ⟨(ad.add (k * 4)).block, (ad.add (k * 4)).off + 1, none⟩ = some (.int .i64 x.f1) := fun a b c d => ((hB4 a b c d).cell (World.block_lt_of_cell? w _ h1)).trans h1
  have hx2 : ∀ a b c d, ((((w.alloc a).alloc b).alloc c).alloc d).cell? ⟨(ad.add (k * 4)).block, (ad.add (k * 4)).off + 2, none⟩ = some (.int .i64 x.f2.f0) := fun a b c d => ((hB4 a b c d).cell (World.block_lt_of_cell? w _ h2)).trans h2
  have hx3 : ∀ a b c d, ((((w.alloc a).alloc b).alloc c).alloc d).cell? ⟨(ad.add (k * 4)).block, (ad.add (k * 4)).off + 3, none⟩ = some (.int .i64 x.f2.f1) := fun a b c d => ((hB4 a b c d).cell (World.block_lt_of_cell? w _ h3)).trans h3
  have HR := Lib.hid hr
  have HF := Lib.hid hf
  have HS := Lib.hid hs
  clear h0 h1 h2 h3 hr hf hs hx hrd hB4
  have hk0 : ¬ (k : Int) < 0 := by omega
  have hk1 : ¬ (k : Int) ≥ (l.length : Int) := by omega
  have hk2 : (0 : Int) ≤ (k : Int) := by omega
  have hk3 : (k : Int) < (l.length : Int) := by omega
  obtain ⟨x0, x1, x2⟩ := x
  by_cases e0 : x1 = 0
  · subst e0
    show Calls _ _ _ _ fun e w' => e = .returned (.bool (!((l.take k).any fun y => y.f1 == 1 && mayOv x2 y.f2) && !(f.any fun y => mayOv x2 y.f2))) ∧ Below w.heap.size w w'
    · go_enter Try.func40, Try.ntmps40
      go_wp2_with fail
      refine (mayEnvR ⟨x0, 0, x2⟩ l f s (some ad) A2 A3 c0 c2 c3 k w.heap.size (w.heap.size + 1) (w.heap.size + 1 + 1) (w.heap.size + 1 + 1 + 1) (w.heap.size + 1 + 1 + 1 + 1) (w.heap.size + 1 + 1 + 1 + 1 + 1) (w.heap.size + 1 + 1 + 1 + 1 + 1 + 1) _ ?q00 ?q01 ?q02 ?q03 ?q04 ?q05 (Kd.C_below HR.out ?hB0) hk hc (Kd.C_below HF.out ?hB0) (Kd.C_below HS.out ?hB0) ?q06).mono ?_
      all_goals try (first | (repeat (first | exact new_at_n _ _ _ (by simp [World.size_alloc]) | refine old_at ?_ _)); done)
      case hB0 => repeat (first | exact Below.refl _ _ | refine bl_all ?_ _)
      rintro e w1 ⟨rfl, hb1⟩
      go_wp2_with fail
      go_ret
      refine ⟨rfl, bl_then ?_ hb1⟩
      repeat (first | exact Below.refl _ _ | refine bl_all ?_ _)

  · by_cases e1 : x1 = 1
    · subst e1
      show Calls _ _ _ _ fun e w' => e = .returned (.bool (!((l.take k).any fun y => y.f1 == 1 && mayOv x2 y.f2) && !(f.any fun y => mayOv x2 y.f2) && !(s.any fun y => mayOv x2 y))) ∧ Below w.heap.size w w'
      · go_enter Try.func40, Try.ntmps40
        go_wp2_with fail
        refine (mayEnvW ⟨x0, 1, x2⟩ l f s (some ad) A2 A3 c0 c2 c3 k w.heap.size (w.heap.size + 1) (w.heap.size + 1 + 1) (w.heap.size + 1 + 1 + 1) (w.heap.size + 1 + 1 + 1 + 1) (w.heap.size + 1 + 1 + 1 + 1 + 1) (w.heap.size + 1 + 1 + 1 + 1 + 1 + 1) _ ?q10 ?q11 ?q12 ?q13 ?q14 ?q15 (Kd.C_below HR.out ?hB1) hk hc (Kd.C_below HF.out ?hB1) (Kd.C_below HS.out ?hB1) ?q16).mono ?_
        all_goals try (first | (repeat (first | exact new_at_n _ _ _ (by simp [World.size_alloc]) | refine old_at ?_ _)); done)
        case hB1 => repeat (first | exact Below.refl _ _ | refine bl_all ?_ _)
        rintro e w1 ⟨rfl, hb1⟩
        go_wp2_with fail
        go_ret
        refine ⟨rfl, bl_then ?_ hb1⟩
        repeat (first | exact Below.refl _ _ | refine bl_all ?_ _)

    · by_cases e2 : x1 = 2
      · subst e2
        show Calls _ _ _ _ fun e w' => e = .returned (.bool (!((l.take k).any fun y => y.f1 == 1) && !(f.any fun y => decide (y.f0 < x0)))) ∧ Below w.heap.size w w'
        · go_enter Try.func40, Try.ntmps40
          go_wp2_with fail
          refine (mayEnvF ⟨x0, 2, x2⟩ l f s (some ad) A2 A3 c0 c2 c3 k w.heap.size (w.heap.size + 1) (w.heap.size + 1 + 1) (w.heap.size + 1 + 1 + 1) (w.heap.size + 1 + 1 + 1 + 1) (w.heap.size + 1 + 1 + 1 + 1 + 1) (w.heap.size + 1 + 1 + 1 + 1 + 1 + 1) _ ?q20 ?q21 ?q22 ?q23 ?q24 ?q25 (Kd.C_below HR.out ?hB2) hk hc (Kd.C_below HF.out ?hB2) (Kd.C_below HS.out ?hB2) ?q26).mono ?_
          all_goals try (first | (repeat (first | exact new_at_n _ _ _ (by simp [World.size_alloc]) | refine old_at ?_ _)); done)
          case hB2 => repeat (first | exact Below.refl _ _ | refine bl_all ?_ _)
          rintro e w1 ⟨rfl, hb1⟩
          go_wp2_with fail
          go_ret
          refine ⟨rfl, bl_then ?_ hb1⟩
          repeat (first | exact Below.refl _ _ | refine bl_all ?_ _)

      · have hm : mayIn l k f s ⟨x0, x1, x2⟩ = false := by unfold mayIn; rw [if_neg e0, if_neg e1, if_neg e2]
        rw [hm]
        have b0 : (x1 == 0) = false := by simpa using e0
        have b1 : (x1 == 1) = false := by simpa using e1
        have b2 : (x1 == 2) = false := by simpa using e2
        clear hm e0 e1 e2
        go_enter Try.func40, Try.ntmps40
        go_wp2_with fail
        go_ret
        refine ⟨rfl, ?_⟩
        repeat (first | exact Below.refl _ _ | refine bl_all ?_ _)
theorem may40_out (l f : List S57) (s : List S55) (A0 A2 A3 : Option Addr) (c0 c2 c3 : Nat) (i : Int) (w : World) (hi : i < 0 ∨ (l.length : Int) ≤ i) :
    Calls Try.prog 40 #[.slice A0 l.length c0, .int .i64 i, .slice A2 f.length c2, .slice A3 s.length c3] w fun e w' => e = .returned (.bool false) ∧ Below w.heap.size w w' := by
  by_cases h0 : i < 0
  · go_enter Try.func40, Try.ntmps40
    go_wp2_with fail
    go_ret
    refine ⟨rfl, ?_⟩
    repeat (first | exact Below.refl _ _ | refine bl_all ?_ _)
  · have h1 : i ≥ (l.length : Int) := by omega
    clear hi
    go_enter Try.func40, Try.ntmps40
    go_wp2_with fail
    go_ret
    refine ⟨rfl, ?_⟩
    repeat (first | exact Below.refl _ _ | refine bl_all ?_ _)
def wait_May.f (l0 : List S57) (a1 : Int) (l2 : List S57) (l3 : List S55) : Option Bool :=
  some (if a1 < 0 ∨ (l0.length : Int) ≤ a1 then false else match l0[a1.toNat]? with | none => false | some x => mayIn l0 a1.toNat l2 l3 x)
theorem wait_May.calls (A0 : Option Addr) (c0 : Nat) (l0 : List S57) (a1 : Int) (A2 : Option Addr) (c2 : Nat) (l2 : List S57) (A3 : Option Addr) (c3 : Nat) (l3 : List S55) (r : Bool) (w : World) (hr0 : Kd.C k57 w A0 l0.length l0) (hc0 : l0.length ≤ c0) (hr2 : Kd.C k57 w A2 l2.length l2) (hc2 : l2.length ≤ c2) (hr3 : Kd.C k55 w A3 l3.length l3) (hc3 : l3.length ≤ c3) (h : wait_May.f l0 a1 l2 l3 = some r) :
    Calls Try.prog 40 #[.slice A0 l0.length c0, .int .i64 a1, .slice A2 l2.length c2, .slice A3 l3.length c3] w fun e w' => e = .returned (.bool r) ∧ Below w.heap.size w w' := by
  obtain rfl := Option.some.inj h
  by_cases hi : a1 < 0 ∨ (l0.length : Int) ≤ a1
  · rw [if_pos hi]
    exact may40_out l0 l2 l3 A0 A2 A3 c0 c2 c3 a1 w hi
  · rw [if_neg hi]
    obtain ⟨k, rfl⟩ := Int.eq_ofNat_of_zero_le (show 0 ≤ a1 by omega)
    have hk : k < l0.length := by omega
    rw [Int.toNat_natCast, List.getElem?_eq_getElem hk]
    exact may40_in _ l0 l2 l3 A0 A2 A3 c0 c2 c3 k w hr0 hk hc0 hr2 hr3 rfl


/-! ### twainlaw16_lives: function 37, by hand -/
def lives16 : List S57 := [⟨1, 1, ⟨0, 2⟩⟩, ⟨2, 0, ⟨1, 1⟩⟩, ⟨3, 0, ⟨2, 1⟩⟩]
theorem lives16_reads (w : World) (b : Nat) (h : w.heap[b]? = some (.cells #[.int .i64 1, .int .i64 1, .int .i64 0, .int .i64 2, .int .i64 2, .int .i64 0, .int .i64 1, .int .i64 1, .int .i64 3, .int .i64 0, .int .i64 2, .int .i64 1] 57 (0, 0))) : Kd.C k57 w (some ⟨b, 0, none⟩) lives16.length lives16 := by
  have hc : ∀ i, w.cell? (Addr.add ⟨b, 0, none⟩ i) = (#[.int .i64 1, .int .i64 1, .int .i64 0, .int .i64 2, .int .i64 2, .int .i64 0, .int .i64 1, .int .i64 1, .int .i64 3, .int .i64 0, .int .i64 2, .int .i64 1] : Array Value)[i]? := fun i => by
    have e : Addr.add ⟨b, 0, none⟩ i = ⟨b, i, none⟩ := by simp [Addr.add]; exact fun h => h.symm
    rw [e]
    exact blk_cell h i
  refine ⟨rfl, by simp [lives16], fun _ => ⟨⟨b, 0, none⟩, rfl, fun j p hj => ⟨[.int .i64 p.f0, .int .i64 p.f1, .int .i64 p.f2.f0, .int .i64 p.f2.f1], rfl, k57_mk w p, fun i u hu => ?_⟩⟩⟩
  rw [hc]
  have hlt : j < 3 := (List.getElem?_eq_some_iff.1 hj).1
  have hi : i < 4 := (List.getElem?_eq_some_iff.1 hu).1
  have : j = 0 ∨ j = 1 ∨ j = 2 := by omega
  have hi' : i = 0 ∨ i = 1 ∨ i = 2 ∨ i = 3 := by omega
  rcases this with rfl | rfl | rfl <;> (obtain rfl := Option.some.inj hj; rcases hi' with rfl | rfl | rfl | rfl <;> exact hu)
theorem lives16_nil {α : Type} (d : Kd α) (w : World) : Kd.C d w none ([] : List α).length [] := ⟨rfl, by simp, fun h => absurd h (by simp)⟩
def twainlaw16_lives.f : Option Bool := some true
set_option maxRecDepth 20000 in
set_option maxHeartbeats 2000000 in
theorem twainlaw16_lives.calls (r : Bool) (w : World) (h : twainlaw16_lives.f = some r) :
    Calls Try.prog 37 #[] w fun e w' => e = .returned (.bool r) ∧ Below w.heap.size w w' := by
  obtain rfl := Option.some.inj h
  have hu55 := Try.underlying55
  have hu57 := Try.underlying57
  have M : ∀ (i : Int) (q : Bool), wait_May.f lives16 i [] [] = some q → ∀ b v, v.heap[b]? = some (.cells #[.int .i64 1, .int .i64 1, .int .i64 0, .int .i64 2, .int .i64 2, .int .i64 0, .int .i64 1, .int .i64 1, .int .i64 3, .int .i64 0, .int .i64 2, .int .i64 1] 57 (0, 0)) →
      Calls Try.prog 40 #[.slice (some ⟨b, 0, none⟩) 3 3, .int .i64 i, .slice none 0 0, .slice none 0 0] v fun e w' => e = .returned (.bool q) ∧ Below v.heap.size v w' :=
    fun i q hq b v hv => wait_May.calls (some ⟨b, 0, none⟩) 3 lives16 i none 0 [] none 0 [] q v (lives16_reads v b hv) (by simp [lives16]) (lives16_nil _ _) (by simp) (lives16_nil _ _) (by simp) hq
  have D0 := Lib.hid (M 0 true (by decide +kernel))
  have D1 := Lib.hid (M 1 false (by decide +kernel))
  have D2 := Lib.hid (M 2 true (by decide +kernel))
  clear M
  go_enter Try.func37, Try.ntmps37
  go_wp2_with fail
  refine (D0.out _ _ (new_at _ _)).mono ?_
  rintro e w1 ⟨rfl, hb1⟩
  have H1 := Lib.hid (keep_at_all (new_at _ _) hb1)
  have HB1 := Lib.hid (bl_then (bl_all (Below.refl _ _) _) hb1)
  clear hb1
  go_wp2_with fail
  refine (D1.out _ _ H1.out).mono ?_
  rintro e w2 ⟨rfl, hb2⟩
  have H2 := Lib.hid (keep_at_all H1.out hb2)
  have HB2 := Lib.hid (bl_then HB1.out hb2)
  clear hb2 HB1 H1
  go_wp2_with fail
  refine (D2.out _ _ H2.out).mono ?_
  rintro e w3 ⟨rfl, hb3⟩
  have HB3 := Lib.hid (bl_then HB2.out hb3)
  clear hb3 HB2 H2
  go_wp2_with fail
  go_ret
  exact ⟨rfl, HB3.out⟩

end Go.Proofs.Yteclkapffhjddaa.Wait
