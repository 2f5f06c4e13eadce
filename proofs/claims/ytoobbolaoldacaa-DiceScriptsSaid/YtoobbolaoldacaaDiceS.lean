/-
  Dice: their state, and the throws, the program's.
-/
import Derived.Test.YtoobbolaoldacaaDiceP
import Derived.Test.YtoobbolaoldacaaRowOwn
import Derived.Test.YtoobbolaoldacaaY
import Derived.Test.YtoobbolaoldacaaProg
import Derived.WalkKit
import Derived.WalkLawsBesides
import Derived.WalkSpells
import Derived.Deep.QuietTactic
import Derived.BigQuiet
import Derived.StillTailTactics
import Derived.Lib.Hide
namespace Go.Proofs.Ytoobbolaoldacaa.DiceW
open Go.RowKit Go.Proofs.Ytoobbolaoldacaa Go.Proofs.Ytoobbolaoldacaa.DiceP Go.Proofs.Ytoobbolaoldacaa.RowOwn Go.Proofs.YtoobbolaoldacaaW.PrintWords Go.Proofs.YtoobbolaoldacaaW.PrintMore
set_option linter.unusedVariables false
def DAt (t : Nat) (w : World) (g x : Nat) : Prop := w.heap[g]? = some (.cells #[.int .u64 (x : Int)] t (0, 0))
section
variable {t : Nat} {w w1 : World} {g x : Nat} {S : Nat → Prop}
theorem d_cell (h : DAt t w g x) : w.cell? ⟨g, 0, none⟩ = some (.int .u64 (x : Int)) := blk_cell h 0
theorem d_frozen (h : DAt t w g x) : w.frozen? ⟨g, 0, none⟩ = false := blk_frozen h 0
theorem d_lt (h : DAt t w g x) : g < w.heap.size := lt_at h
theorem d_only (h : DAt t w g x) (ho : OnlyS S w w1) (hs : ¬ S g) : DAt t w1 g x := blk_only h ho hs
theorem d_below (h : DAt t w g x) (hb : Below w.heap.size w w1) : DAt t w1 g x := keep_at_all h hb
theorem d_set (h : DAt t w g x) (y : Nat) : DAt t (w.setCell ⟨g, 0, none⟩ (.int .u64 (y : Int))) g y := set_at h 0 _
theorem d_drew (h : DAt t w g x) : DAt t w.drew g x := h
end
theorem is_yes (g x : Nat) (w : World) (hl : Live x) (h : DAt 113 w g x) :
    Calls Try.prog 83 #[.pointer (some ⟨g, 0, none⟩)] w fun e w' => e = .returned (.bool true) ∧ w = w' := by
  have h0 := d_cell h
  have hx : ((x : Int) != 0) = true := by have := hl.1; simp; omega
  go_enter Try.func83, Try.ntmps83
  go_wp2
  go_ret
  exact ⟨rfl, rfl⟩
theorem is_none (g : Nat) (w : World) (h : DAt 113 w g 0) :
    Calls Try.prog 83 #[.pointer (some ⟨g, 0, none⟩)] w fun e w' => e = .returned (.bool false) ∧ w = w' := by
  have h0 : w.cell? ⟨g, 0, none⟩ = some (.int .u64 0) := d_cell h
  go_enter Try.func83, Try.ntmps83
  go_wp2
  go_ret
  exact ⟨rfl, rfl⟩
theorem is_nil (w : World) : Calls Try.prog 83 #[.pointer none] w fun e w' => e = .returned (.bool false) ∧ w = w' := by
  go_enter Try.func83, Try.ntmps83
  go_wp2
  go_ret
  exact ⟨rfl, rfl⟩
/-- what New makes of a seed -/
def seedN (s : Nat) : Nat := if s = 0 then 88172645463325252 else s
theorem seed_live {s : Nat} (h : s < 18446744073709551616) : Live (seedN s) := by
  unfold seedN Live
  split <;> omega
theorem new_walk (s : Nat) (w : World) (hs : s < 18446744073709551616) :
    Calls Try.prog 41 #[.int .u64 (s : Int)] w fun e w' => e = .returned (.pointer (some ⟨w.heap.size, 0, none⟩)) ∧ w.alloc (.cells #[.int .u64 (seedN s : Int)] 113) = w' := by
  by_cases h : s = 0
  · subst h
    go_enter Try.func41, Try.ntmps41
    go_wp2
    go_ret
    exact ⟨rfl, rfl⟩
  · have h' : ¬ (s : Int) = 0 := by omega
    have e : (seedN s : Int) = s := by simp [seedN, h]
    rw [e]
    go_enter Try.func41, Try.ntmps41
    go_wp2
    go_ret
    exact ⟨rfl, rfl⟩
theorem rnew_walk (s : Nat) (w : World) (hs : s < 18446744073709551616) :
    Calls Try.prog 42 #[.int .u64 (s : Int)] w fun e w' => e = .returned (.pointer (some ⟨w.heap.size, 0, none⟩)) ∧ w.alloc (.cells #[.int .u64 (seedN s : Int)] 149) = w' := by
  by_cases h : s = 0
  · subst h
    go_enter Try.func42, Try.ntmps42
    go_wp2
    go_ret
    exact ⟨rfl, rfl⟩
  · have h' : ¬ (s : Int) = 0 := by omega
    have e : (seedN s : Int) = s := by simp [seedN, h]
    rw [e]
    go_enter Try.func42, Try.ntmps42
    go_wp2
    go_ret
    exact ⟨rfl, rfl⟩
theorem next_none (g : Nat) (w : World) (h : DAt 113 w g 0) :
    Calls Try.prog 45 #[.pointer (some ⟨g, 0, none⟩)] w fun e w' => e = .returned (.int .u64 0) ∧ w = w' := by
  go_enter Try.func45, Try.ntmps45
  go_wp2_with (go_at_call 83; refine (is_none g _ h).mono ?_; rintro e w' ⟨rfl, rfl⟩)
  go_ret
  exact ⟨rfl, rfl⟩
theorem next_nil (w : World) :
    Calls Try.prog 45 #[.pointer none] w fun e w' => e = .returned (.int .u64 0) ∧ w = w' := by
  go_enter Try.func45, Try.ntmps45
  go_wp2_with (go_at_call 83; refine (is_nil _).mono ?_; rintro e w' ⟨rfl, rfl⟩)
  go_ret
  exact ⟨rfl, rfl⟩
set_option maxHeartbeats 1000000 in
set_option maxRecDepth 20000 in
theorem next_yes (g x : Nat) (w : World) (hl : Live x) (h : DAt 113 w g x) :
    Calls Try.prog 45 #[.pointer (some ⟨g, 0, none⟩)] w fun e w' => e = .returned (.int .u64 (outN x : Int)) ∧ DAt 113 w' g (stepN x) ∧ OnlyS (· = g) w w' := by
  have IS := Lib.hid (is_yes g x w hl h)
  have H := Lib.hid h
  have h0 := d_cell h
  have hf := d_frozen h
  have E1 := Lib.hid (i1 hl)
  have E2 := Lib.hid (i2' (st1_live hl))
  have E3 := Lib.hid (i3 (st2_live (st1_live hl)))
  clear h
  go_enter Try.func45, Try.ntmps45
  go_wp2_with (go_at_call 83; refine IS.out.mono ?_; rintro e w' ⟨rfl, rfl⟩)
  have O := Lib.hid (OnlyS.refl (· = g) w)
  go_still_tail 12, (by kernel_rfl)
  change wpList _ _ _ _ _ w.drew
  generalize hw1 : w.drew = v1
  have H1 : DAt 113 v1 g (x) := by rw [← hw1]; exact H.out
  have O1 : OnlyS (· = g) w v1 := by rw [← hw1]; exact O.out.drew
  clear hw1 H O h0 hf
  have h0 := d_cell H1
  have hf := d_frozen H1
  have H := Lib.hid H1
  have O := Lib.hid O1
  clear H1 O1
  go_wp2
  rw [E1.out]
  have H1 := d_set H.out (st1 (x))
  have O1 := O.out.set ⟨g, 0, none⟩ (.int .u64 (st1 (x) : Int)) (.inl rfl)
  generalize v1.setCell ⟨g, 0, none⟩ (.int .u64 (st1 (x) : Int)) = u1 at H1 O1 ⊢
  clear h0 hf H O
  have h0 := d_cell H1
  have hf := d_frozen H1
  have H := Lib.hid H1
  have O := Lib.hid O1
  clear H1 O1
  go_still_tail 12, (by kernel_rfl)
  change wpList _ _ _ _ _ u1.drew
  generalize hw2 : u1.drew = v2
  have H2 : DAt 113 v2 g (st1 x) := by rw [← hw2]; exact H.out
  have O2 : OnlyS (· = g) w v2 := by rw [← hw2]; exact O.out.drew
  clear hw2 H O h0 hf
  have h0 := d_cell H2
  have hf := d_frozen H2
  have H := Lib.hid H2
  have O := Lib.hid O2
  clear H2 O2
  go_wp2
  rw [E2.out]
  have H2 := d_set H.out (st2 (st1 x))
  have O2 := O.out.set ⟨g, 0, none⟩ (.int .u64 (st2 (st1 x) : Int)) (.inl rfl)
  generalize v2.setCell ⟨g, 0, none⟩ (.int .u64 (st2 (st1 x) : Int)) = u2 at H2 O2 ⊢
  clear h0 hf H O
  have h0 := d_cell H2
  have hf := d_frozen H2
  have H := Lib.hid H2
  have O := Lib.hid O2
  clear H2 O2
  go_still_tail 12, (by kernel_rfl)
  change wpList _ _ _ _ _ u2.drew
  generalize hw3 : u2.drew = v3
  have H3 : DAt 113 v3 g (st2 (st1 x)) := by rw [← hw3]; exact H.out
  have O3 : OnlyS (· = g) w v3 := by rw [← hw3]; exact O.out.drew
  clear hw3 H O h0 hf
  have h0 := d_cell H3
  have hf := d_frozen H3
  have H := Lib.hid H3
  have O := Lib.hid O3
  clear H3 O3
  go_wp2
  rw [E3.out]
  have H3 := d_set H.out (st3 (st2 (st1 x)))
  have O3 := O.out.set ⟨g, 0, none⟩ (.int .u64 (st3 (st2 (st1 x)) : Int)) (.inl rfl)
  generalize v3.setCell ⟨g, 0, none⟩ (.int .u64 (st3 (st2 (st1 x)) : Int)) = u3 at H3 O3 ⊢
  clear h0 hf H O
  have h0 := d_cell H3
  have hf := d_frozen H3
  have H := Lib.hid H3
  have O := Lib.hid O3
  clear H3 O3
  go_wp2
  go_ret
  exact ⟨ret_i (io' x), H.out, O.out⟩
end Go.Proofs.Ytoobbolaoldacaa.DiceW
