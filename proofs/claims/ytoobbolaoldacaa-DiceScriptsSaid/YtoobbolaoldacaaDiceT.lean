/-
  Dice: the throws, the reference's; a number below another one, of both.
-/
import Derived.Test.YtoobbolaoldacaaDiceS
namespace Go.Proofs.Ytoobbolaoldacaa.DiceW
open Go.RowKit Go.Proofs.Ytoobbolaoldacaa Go.Proofs.Ytoobbolaoldacaa.DiceP Go.Proofs.Ytoobbolaoldacaa.RowOwn Go.Proofs.YtoobbolaoldacaaW.PrintWords Go.Proofs.YtoobbolaoldacaaW.PrintMore
set_option linter.unusedVariables false
theorem wrap_u (n : Int) (h1 : 0 ≤ n) (h2 : n < 18446744073709551616) : IntKind.u64.wrap n = n := by rw [IntKind.wrap_u64]; omega
theorem i1' {x : Nat} (h : Live x) : bits .xor .u64 (x : Int) (IntKind.u64.wrap ((x : Int) / 4096)) = ((st1 x : Nat) : Int) := by
  rw [wrap_u _ (by omega) (by have := h.2; omega)]; exact i1 h
theorem i3' {x : Nat} (h : Live x) : bits .xor .u64 (x : Int) (IntKind.u64.wrap ((x : Int) / 134217728)) = ((st3 x : Nat) : Int) := by
  rw [wrap_u _ (by omega) (by have := h.2; omega)]; exact i3 h
set_option maxHeartbeats 1000000 in
set_option maxRecDepth 20000 in
theorem rnext (g x : Nat) (w : World) (hl : Live x) (h : DAt 149 w g x) :
    Calls Try.prog 46 #[.pointer (some ⟨g, 0, none⟩)] w fun e w' => e = .returned (.int .u64 (outN x : Int)) ∧ DAt 149 w' g (stepN x) ∧ OnlyS (· = g) w w' := by
  have H := Lib.hid h
  have h0 := d_cell h
  have hf := d_frozen h
  have E1 := Lib.hid (i1' hl)
  have E2 := Lib.hid (i2' (st1_live hl))
  have E3 := Lib.hid (i3' (st2_live (st1_live hl)))
  clear h
  go_enter Try.func46, Try.ntmps46
  go_wp2_with fail
  have O := Lib.hid (OnlyS.refl (· = g) w)
  go_still_tail 12, (by kernel_rfl)
  change wpList _ _ _ _ _ w.drew
  generalize hw1 : w.drew = v1
  have H1 : DAt 149 v1 g (x) := by rw [← hw1]; exact H.out
  have O1 : OnlyS (· = g) w v1 := by rw [← hw1]; exact O.out.drew
  clear hw1 H O h0 hf
  have h0 := d_cell H1
  have hf := d_frozen H1
  have H := Lib.hid H1
  have O := Lib.hid O1
  clear H1 O1
  go_wp2
  rw [E1.out]
  have H1 := d_set H.out (st1 (x))
  have O1 := O.out.set ⟨g, 0, none⟩ (.int .u64 (st1 (x) : Int)) (.inl rfl)
  generalize v1.setCell ⟨g, 0, none⟩ (.int .u64 (st1 (x) : Int)) = u1 at H1 O1 ⊢
  clear h0 hf H O
  have h0 := d_cell H1
  have hf := d_frozen H1
  have H := Lib.hid H1
  have O := Lib.hid O1
  clear H1 O1
  go_still_tail 12, (by kernel_rfl)
  change wpList _ _ _ _ _ u1.drew
  generalize hw2 : u1.drew = v2
  have H2 : DAt 149 v2 g (st1 x) := by rw [← hw2]; exact H.out
  have O2 : OnlyS (· = g) w v2 := by rw [← hw2]; exact O.out.drew
  clear hw2 H O h0 hf
  have h0 := d_cell H2
  have hf := d_frozen H2
  have H := Lib.hid H2
  have O := Lib.hid O2
  clear H2 O2
  go_wp2
  rw [E2.out]
  have H2 := d_set H.out (st2 (st1 x))
  have O2 := O.out.set ⟨g, 0, none⟩ (.int .u64 (st2 (st1 x) : Int)) (.inl rfl)
  generalize v2.setCell ⟨g, 0, none⟩ (.int .u64 (st2 (st1 x) : Int)) = u2 at H2 O2 ⊢
  clear h0 hf H O
  have h0 := d_cell H2
  have hf := d_frozen H2
  have H := Lib.hid H2
  have O := Lib.hid O2
  clear H2 O2
  go_still_tail 12, (by kernel_rfl)
  change wpList _ _ _ _ _ u2.drew
  generalize hw3 : u2.drew = v3
  have H3 : DAt 149 v3 g (st2 (st1 x)) := by rw [← hw3]; exact H.out
  have O3 : OnlyS (· = g) w v3 := by rw [← hw3]; exact O.out.drew
  clear hw3 H O h0 hf
  have h0 := d_cell H3
  have hf := d_frozen H3
  have H := Lib.hid H3
  have O := Lib.hid O3
  clear H3 O3
  go_wp2
  rw [E3.out]
  have H3 := d_set H.out (st3 (st2 (st1 x)))
  have O3 := O.out.set ⟨g, 0, none⟩ (.int .u64 (st3 (st2 (st1 x)) : Int)) (.inl rfl)
  generalize v3.setCell ⟨g, 0, none⟩ (.int .u64 (st3 (st2 (st1 x)) : Int)) = u3 at H3 O3 ⊢
  clear h0 hf H O
  have h0 := d_cell H3
  have hf := d_frozen H3
  have H := Lib.hid H3
  have O := Lib.hid O3
  clear H3 O3
  go_wp2
  go_ret
  exact ⟨ret_i (io' x), H.out, O.out⟩
theorem less_eq {n : Int} {x : Nat} (h1 : 1 ≤ n) (h2 : n < 9223372036854775808) : lessN n x = (outN x : Int) % n := by
  unfold lessN
  rw [if_neg (by omega), Int.natCast_emod, Int.toNat_of_nonneg (by omega)]
theorem less_wrap {n : Int} {x : Nat} (h1 : 1 ≤ n) (h2 : n < 9223372036854775808) : wrap64 ((outN x : Int) % n) = lessN n x := by
  rw [less_eq h1 h2]
  have h3 := Int.emod_nonneg (outN x : Int) (show n ≠ 0 by omega)
  have h4 := Int.emod_lt_of_pos (outN x : Int) (show 0 < n by omega)
  unfold wrap64
  omega
set_option maxRecDepth 20000 in
theorem below_yes (g x : Nat) (n : Int) (w : World) (hl : Live x) (hn : n < 9223372036854775808) (h : DAt 113 w g x) :
    Calls Try.prog 43 #[.pointer (some ⟨g, 0, none⟩), .int .i64 n] w fun e w' => e = .returned (.int .i64 (lessN n x)) ∧ DAt 113 w' g (lessS n x) ∧ OnlyS (· = g) w w' := by
  have IS := Lib.hid (is_yes g x w hl h)
  have NX := Lib.hid (next_yes g x w hl h)
  have H := Lib.hid h
  by_cases h1 : n < 1
  · have e1 : lessN n x = 0 := if_pos h1
    have e2 : lessS n x = x := if_pos h1
    rw [e1, e2]
    clear e1 e2 h
    go_enter Try.func43, Try.ntmps43
    go_wp2_with (go_at_call 83; refine IS.out.mono ?_; rintro e w' ⟨rfl, rfl⟩)
    go_ret
    exact ⟨rfl, H.out, OnlyS.refl _ _⟩
  · have e1 := Lib.hid (less_wrap (x := x) (show 1 ≤ n by omega) hn)
    have e2 : lessS n x = stepN x := if_neg h1
    have e3 : IntKind.u64.wrap n = n := wrap_u n (by omega) (by omega)
    rw [e2]
    clear e2 h
    go_enter Try.func43, Try.ntmps43
    go_wp2_with (first | (go_at_call 83; refine IS.out.mono ?_; rintro e w' ⟨rfl, rfl⟩) | (go_at_call 45; refine NX.out.mono ?_; rintro e w' ⟨rfl, H2, O2⟩))
    go_ret
    exact ⟨ret_i e1.out, H2, O2⟩
theorem below_none (g : Nat) (n : Int) (w : World) (h : DAt 113 w g 0) :
    Calls Try.prog 43 #[.pointer (some ⟨g, 0, none⟩), .int .i64 n] w fun e w' => e = .returned (.int .i64 0) ∧ w = w' := by
  go_enter Try.func43, Try.ntmps43
  go_wp2_with (go_at_call 83; refine (is_none g _ h).mono ?_; rintro e w' ⟨rfl, rfl⟩)
  go_ret
  exact ⟨rfl, rfl⟩
theorem below_nil (n : Int) (w : World) :
    Calls Try.prog 43 #[.pointer none, .int .i64 n] w fun e w' => e = .returned (.int .i64 0) ∧ w = w' := by
  go_enter Try.func43, Try.ntmps43
  go_wp2_with (go_at_call 83; refine (is_nil _).mono ?_; rintro e w' ⟨rfl, rfl⟩)
  go_ret
  exact ⟨rfl, rfl⟩
set_option maxRecDepth 20000 in
theorem rbelow (g x : Nat) (n : Int) (w : World) (hl : Live x) (hn : n < 9223372036854775808) (h : DAt 149 w g x) :
    Calls Try.prog 44 #[.pointer (some ⟨g, 0, none⟩), .int .i64 n] w fun e w' => e = .returned (.int .i64 (lessN n x)) ∧ DAt 149 w' g (lessS n x) ∧ OnlyS (· = g) w w' := by
  have NX := Lib.hid (rnext g x w hl h)
  have H := Lib.hid h
  by_cases h1 : n < 1
  · have e1 : lessN n x = 0 := if_pos h1
    have e2 : lessS n x = x := if_pos h1
    rw [e1, e2]
    clear e1 e2 h
    go_enter Try.func44, Try.ntmps44
    go_wp2_with fail
    go_ret
    exact ⟨rfl, H.out, OnlyS.refl _ _⟩
  · have e1 := Lib.hid (less_wrap (x := x) (show 1 ≤ n by omega) hn)
    have e2 : lessS n x = stepN x := if_neg h1
    have e3 : IntKind.u64.wrap n = n := wrap_u n (by omega) (by omega)
    rw [e2]
    clear e2 h
    go_enter Try.func44, Try.ntmps44
    go_wp2_with (go_at_call 46; refine NX.out.mono ?_; rintro e w' ⟨rfl, H2, O2⟩)
    go_ret
    exact ⟨ret_i e1.out, H2, O2⟩
end Go.Proofs.Ytoobbolaoldacaa.DiceW
