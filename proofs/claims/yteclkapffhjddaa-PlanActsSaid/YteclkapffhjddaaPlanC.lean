/-
  The contracts of package plan and of its reference: each function steps as Go does; memory: the one block of each.
-/
import Derived.Test.YteclkapffhjddaaBitsPure
import Derived.Test.YteclkapffhjddaaBitsx3
import Derived.Test.YteclkapffhjddaaY
import Derived.Deep.RegionWith
import Derived.Deep.QuietTactic
import Derived.BigQuiet
import Derived.Lib.Hide
namespace Go.Proofs.Yteclkapffhjddaa.PlanW
open Go.RowKit Go.Proofs.Yteclkapffhjddaa Go.Proofs.Yteclkapffhjddaa.Bits Go.Proofs.Yteclkapffhjddaa.BitsPlain Go.Proofs.Yteclkapffhjddaa.BitsPure Go.Proofs.YteclkapffhjddaaW.PrintWords Go.Proofs.YteclkapffhjddaaW.PrintLast Go.Proofs.YteclkapffhjddaaW.PrintMore
set_option linter.unusedVariables false
/-- only block g was written -/
def Only (g : Nat) (w w' : World) : Prop := (∀ q, q ≠ g → w'.heap[q]? = w.heap[q]?) ∧ (∀ B w0, Below B w0 w → B ≤ g → Below B w0 w')
theorem only_drawn {g : Nat} {w w' : World} (h : Drawn0 w w') : Only g w w' := by
  obtain ⟨n, rfl⟩ := h
  exact ⟨fun _ _ => rfl, fun B w0 hb _ => bl_drew hb _⟩
theorem only_set {w : World} (n : Nat) (g i : Nat) (u : Value) : Only g w ((w.drewN n).setCell ⟨g, i, none⟩ u) := by
  refine ⟨?_, ?_⟩
  · intro q hq; exact Below.heap_setCell _ _ _ q hq
  · intro B w0 hb hB; exact bl_set (p := ⟨g, i, none⟩) (bl_drew hb _) hB _
def PlanAt (w : World) (g : Nat) (m x : Nat) : Prop := w.heap[g]? = some (.cells #[.bool true, .int .u64 (m : Int), .int .u64 (x : Int)] 48 (0, 0))
def RPlanAt (w : World) (g : Nat) (m x : Nat) : Prop := w.heap[g]? = some (.cells #[.int .u64 (m : Int), .int .u64 (x : Int)] 42 (0, 0))
theorem has_c (x : Nat) (n : Int) (hx : x < 2 ^ 64) (w : World) : Calls Try.prog 24 #[.int .u64 (x : Int), .int .i64 n] w fun e w' => e = .returned (.bool (hasN x n)) ∧ Drawn0 w w' := bits_Has.calls _ _ _ w (has_p x n hx)
theorem rhas_c (x : Nat) (n : Int) (hx : x < 2 ^ 64) (w : World) : Calls Try.prog 25 #[.int .u64 (x : Int), .int .i64 n] w fun e w' => e = .returned (.bool (hasN x n)) ∧ Drawn0 w w' := twainref01_Has.calls 200 _ _ _ w (ref_has_p x n 200 (by omega) hx)
theorem without_p (x : Nat) (n : Int) (hx : x < 2 ^ 64) : bits_Without.f (x : Int) n = some ((withoutN x n : Nat) : Int) := by
  unfold bits_Without.f
  rw [one_p, Option.bind_some, u64_andNot_nat _ _ hx (bitN_lt n), show 18446744073709551615 = 2 ^ 64 - 1 by rfl, withoutN_and x n hx]
theorem ref_without_p (x : Nat) (n : Int) (hx : x < 2 ^ 64) : twainref01_Without.f 200 (x : Int) n = some ((withoutN x n : Nat) : Int) := by
  unfold twainref01_Without.f
  rw [ref_has_p x n 200 (by omega) hx, Option.bind_some]
  unfold withoutN
  by_cases h : hasN x n = true
  · have hle : bitN n ≤ x := by
      have := withN_has x n h
      unfold withN at this
      have h3 : bitN n ≤ x ||| bitN n := Nat.right_le_or
      omega
    rw [if_pos h, if_pos h, ref_one_p n 200 (by omega), Option.bind_some, IntKind.wrap_u64]
    congr 1
    omega
  · rw [if_neg h, if_neg h]
theorem withoutN_lt (x : Nat) (n : Int) (hx : x < 2 ^ 64) : withoutN x n < 2 ^ 64 := by unfold withoutN; split <;> omega
theorem withoutN_no (x : Nat) (n : Int) (h : hasN x n = false) : withoutN x n = x := by unfold withoutN; rw [h]; rfl
theorem without_c (x : Nat) (n : Int) (hx : x < 2 ^ 64) (w : World) : Calls Try.prog 28 #[.int .u64 (x : Int), .int .i64 n] w fun e w' => e = .returned (.int .u64 ((withoutN x n : Nat) : Int)) ∧ Drawn0 w w' := bits_Without.calls _ _ _ w (without_p x n hx)
theorem rwithout_c (x : Nat) (n : Int) (hx : x < 2 ^ 64) (w : World) : Calls Try.prog 29 #[.int .u64 (x : Int), .int .i64 n] w fun e w' => e = .returned (.int .u64 ((withoutN x n : Nat) : Int)) ∧ Drawn0 w w' := twainref01_Without.calls 200 _ _ _ w (ref_without_p x n hx)
theorem New_c (m : Nat) (w : World) : Calls Try.prog 31 #[.int .u64 (m : Int)] w fun e w' => e = .returned (.pointer (some ⟨w.heap.size, 0, none⟩)) ∧ w.alloc (.cells #[.bool true, .int .u64 (m : Int), .int .u64 (m : Int)] 48) = w' := by
  go_enter Try.func31, Try.ntmps31
  go_wp2
  go_ret
  exact ⟨rfl, rfl⟩
theorem is_yes (g : Nat) (w : World) (h : w.cell? ⟨g, 0, none⟩ = some (.bool true)) :
    Calls Try.prog 49 #[.pointer (some ⟨g, 0, none⟩)] w fun e w' => e = .returned (.bool true) ∧ w = w' := by
  go_enter Try.func49, Try.ntmps49
  go_wp2
  go_ret
  exact ⟨rfl, rfl⟩
theorem is_none (g : Nat) (w : World) (h : w.cell? ⟨g, 0, none⟩ = some (.bool false)) :
    Calls Try.prog 49 #[.pointer (some ⟨g, 0, none⟩)] w fun e w' => e = .returned (.bool false) ∧ w = w' := by
  go_enter Try.func49, Try.ntmps49
  go_wp2
  go_ret
  exact ⟨rfl, rfl⟩
theorem is_nil (w : World) : Calls Try.prog 49 #[.pointer none] w fun e w' => e = .returned (.bool false) ∧ w = w' := by
  go_enter Try.func49, Try.ntmps49
  go_wp2
  go_ret
  exact ⟨rfl, rfl⟩
theorem Left_c (g m x : Nat) (w : World) (h : PlanAt w g m x) : Calls Try.prog 34 #[.pointer (some ⟨g, 0, none⟩)] w fun e w' => e = .returned (.int .u64 (x : Int)) ∧ w = w' := by
  have h0 : w.cell? ⟨g, 0, none⟩ = some (.bool true) := blk_cell h 0
  have h2 : w.cell? ⟨g, 2, none⟩ = some (.int .u64 (x : Int)) := blk_cell h 2
  go_enter Try.func34, Try.ntmps34
  go_wp2_with (go_at_call 49; refine (is_yes _ _ h0).mono ?_; rintro e w' ⟨rfl, rfl⟩)
  go_ret
  exact ⟨rfl, rfl⟩
theorem Over_c (g m x : Nat) (w : World) (h : PlanAt w g m x) : Calls Try.prog 35 #[.pointer (some ⟨g, 0, none⟩)] w fun e w' => e = .returned (.bool ((x : Int) == 0)) ∧ w = w' := by
  have D := Lib.hid (Left_c g m x w h)
  clear h
  go_enter Try.func35, Try.ntmps35
  go_wp2_with fail
  refine D.out.mono ?_
  rintro e w' ⟨rfl, rfl⟩
  go_wp2_with fail
  go_ret
  exact ⟨rfl, rfl⟩
theorem drop_c (g m x : Nat) (n : Int) (w : World) (hx : x < 2 ^ 64) (h : PlanAt w g m x) :
    Calls Try.prog 48 #[.pointer (some ⟨g, 0, none⟩), .int .i64 n] w fun e w' => e = .returned (.tuple #[]) ∧ PlanAt w' g m (withoutN x n) ∧ Only g w w' := by
  have D := Lib.hid (without_c x n hx)
  have h2 : w.cell? ⟨g, 2, none⟩ = some (.int .u64 (x : Int)) := blk_cell h 2
  have hf : w.frozen? ⟨g, 2, none⟩ = false := blk_frozen h 2
  have H := Lib.hid h
  generalize withoutN x n = y at D
  clear h hx
  go_enter Try.func48, Try.ntmps48
  go_wp2_with fail
  go_region_with ((go_at_call 28; refine (D.out _).mono ?_; rintro e w' ⟨rfl, nd, rfl⟩))
  all_goals go_wp2_with fail
  all_goals go_end0
  all_goals exact ⟨rfl, set_at (w := w.drewN _) H.out 2 _, only_set _ _ _ _⟩
theorem only_trans {g : Nat} {a b c : World} (h : Only g a b) (h' : Only g b c) : Only g a c := ⟨fun q hq => (h'.1 q hq).trans (h.1 q hq), fun B w0 hb hB => h'.2 _ _ (h.2 _ _ hb hB) hB⟩
theorem turn_c (g m x : Nat) (n : Int) (w : World) (hx : x < 2 ^ 64) (h : PlanAt w g m x) :
    Calls Try.prog 47 #[.pointer (some ⟨g, 0, none⟩), .int .i64 n, .func (.func 48) #[] #[]] w fun e w' => e = .returned (.bool (hasN x n)) ∧ PlanAt w' g m (withoutN x n) ∧ Only g w w' := by
  have D := Lib.hid (has_c x n hx)
  have L := Lib.hid (Left_c g m x w h)
  have DR := Lib.hid (fun w => drop_c g m x n w hx)
  have H := Lib.hid h
  clear h
  by_cases hh : hasN x n = true
  · rw [hh] at D ⊢
    generalize withoutN x n = y at DR ⊢
    clear hh hx
    go_enter Try.func47, Try.ntmps47
    go_wp2_with fail
    refine L.out.mono ?_
    rintro e w' ⟨rfl, rfl⟩
    go_wp2_with fail
    refine (D.out _).mono ?_
    rintro e w' ⟨rfl, nd, rfl⟩
    have hd : Hid (PlanAt (w.drewN nd) g m x) := Lib.hid H.out
    have ho : Hid (Only g w (w.drewN nd)) := Lib.hid (only_drawn ⟨nd, rfl⟩)
    generalize w.drewN nd = w1 at hd ho
    go_wp2_with fail
    refine (DR.out _ hd.out).mono ?_
    rintro e w2 ⟨rfl, hp, hq⟩
    go_wp2_with fail
    go_ret
    exact ⟨rfl, hp, only_trans ho.out hq⟩
  · have hh' : hasN x n = false := by simpa using hh
    rw [withoutN_no x n hh', hh']
    rw [hh'] at D
    clear hh hh' hx DR
    go_enter Try.func47, Try.ntmps47
    go_wp2_with fail
    refine L.out.mono ?_
    rintro e w' ⟨rfl, rfl⟩
    go_wp2_with fail
    refine (D.out _).mono ?_
    rintro e w' ⟨rfl, nd, rfl⟩
    go_wp2_with fail
    go_ret
    exact ⟨rfl, H.out, only_drawn ⟨nd, rfl⟩⟩
theorem Have_c (g m x : Nat) (n : Int) (w : World) (hx : x < 2 ^ 64) (h : PlanAt w g m x) :
    Calls Try.prog 32 #[.pointer (some ⟨g, 0, none⟩), .int .i64 n] w fun e w' => e = .returned (.bool (hasN x n)) ∧ PlanAt w' g m (withoutN x n) ∧ Only g w w' := by
  have D := Lib.hid (turn_c g m x n w hx h)
  clear h
  generalize hasN x n = b at D ⊢
  generalize withoutN x n = y at D ⊢
  go_enter Try.func32, Try.ntmps32
  go_wp2_with fail
  refine D.out.mono ?_
  rintro e w2 ⟨rfl, hp, hq⟩
  go_wp2_with fail
  go_ret
  exact ⟨rfl, hp, hq⟩
theorem RHave_c (g m x : Nat) (n : Int) (w : World) (hx : x < 2 ^ 64) (h : RPlanAt w g m x) :
    Calls Try.prog 33 #[.pointer (some ⟨g, 0, none⟩), .int .i64 n] w fun e w' => e = .returned (.bool (hasN x n)) ∧ RPlanAt w' g m (withoutN x n) ∧ Only g w w' := by
  have D := Lib.hid (rhas_c x n hx)
  have D2 := Lib.hid (rwithout_c x n hx)
  have h2 : w.cell? ⟨g, 1, none⟩ = some (.int .u64 (x : Int)) := blk_cell h 1
  have hf : w.frozen? ⟨g, 1, none⟩ = false := blk_frozen h 1
  have H := Lib.hid h
  clear h
  by_cases hh : hasN x n = true
  · rw [hh] at D ⊢
    generalize withoutN x n = y at D2 ⊢
    clear hh hx
    go_enter Try.func33, Try.ntmps33
    go_wp2_with fail
    refine (D.out _).mono ?_
    rintro e w' ⟨rfl, nd, rfl⟩
    go_wp2_with fail
    refine (D2.out _).mono ?_
    rintro e w' ⟨rfl, nd2, rfl⟩
    rw [World.drewN_drewN]
    go_wp2_with fail
    go_ret
    exact ⟨rfl, set_at (w := w.drewN _) H.out 1 _, only_set _ _ _ _⟩
  · have hh' : hasN x n = false := by simpa using hh
    rw [withoutN_no x n hh', hh']
    rw [hh'] at D
    clear hh hh' hx D2
    go_enter Try.func33, Try.ntmps33
    go_wp2_with fail
    refine (D.out _).mono ?_
    rintro e w' ⟨rfl, nd, rfl⟩
    go_wp2_with fail
    go_ret
    exact ⟨rfl, H.out, only_drawn ⟨nd, rfl⟩⟩
theorem list_c (m : Nat) (hm : m < 2 ^ 64) (w : World) : Calls Try.prog 16 #[.int .u64 (m : Int)] w fun e w' => ∃ v0_ : Value, e = .returned (v0_) ∧ Kd.R (Kd.int .i64) 3 w' w.heap.size (fun _ => True) v0_ (intsN (list m)) ∧ Below w.heap.size w w' := bits_List.calls _ _ w (list_p m hm)
theorem rlist_c (m : Nat) (hm : m < 2 ^ 64) (w : World) : Calls Try.prog 12 #[.int .u64 (m : Int)] w fun e w' => ∃ v0_ : Value, e = .returned (v0_) ∧ Kd.R (Kd.int .i64) 3 w' w.heap.size (fun _ => True) v0_ (intsN (list m)) ∧ Below w.heap.size w w' := twainref01_List.calls 200 _ _ w (ref_list_p m hm 200 (by omega))
theorem All_c (g m x : Nat) (w : World) (hm : m < 2 ^ 64) (h : PlanAt w g m x) : Calls Try.prog 36 #[.pointer (some ⟨g, 0, none⟩)] w fun e w' => ∃ v0_ : Value, e = .returned (v0_) ∧ Kd.R (Kd.int .i64) 3 w' w.heap.size (fun _ => True) v0_ (intsN (list m)) ∧ Below w.heap.size w w' := by
  have D := Lib.hid (list_c m hm w)
  have h0 : w.cell? ⟨g, 0, none⟩ = some (.bool true) := blk_cell h 0
  have h1 : w.cell? ⟨g, 1, none⟩ = some (.int .u64 (m : Int)) := blk_cell h 1
  have I := Lib.hid (is_yes g w h0)
  clear h hm
  generalize intsN (list m) = ys at D ⊢
  go_enter Try.func36, Try.ntmps36
  go_wp2_with fail
  refine I.out.mono ?_
  rintro e w' ⟨rfl, rfl⟩
  go_wp2_with fail
  refine D.out.mono ?_
  rintro e w1 ⟨v, rfl, hr, hb⟩
  go_wp2_with fail
  go_ret
  exact ⟨_, rfl, hr, hb⟩
end Go.Proofs.Yteclkapffhjddaa.PlanW
