/-
  BitsTells: walked by hand over its callees' contracts.
-/
import Derived.Test.YteclkapffhjddaaBitsLaws
import Derived.Test.YteclkapffhjddaaY
import Derived.Lib.Hide
namespace Go.Proofs.Yteclkapffhjddaa.BitsTells
open Go.RowKit Go.Proofs.Yteclkapffhjddaa Go.Proofs.Yteclkapffhjddaa.Bits Go.Proofs.Yteclkapffhjddaa.BitsPlain Go.Proofs.Yteclkapffhjddaa.BitsPure Go.Proofs.Yteclkapffhjddaa.BitsLaws Go.Proofs.YteclkapffhjddaaW.PrintWords Go.Proofs.YteclkapffhjddaaW.PrintLast Go.Proofs.YteclkapffhjddaaW.PrintMore
set_option maxHeartbeats 1000000 in
theorem tells (x : Int) (X : List Int) (m z : Int) (ok : Bool) (A : Option Addr) (c : Nat) (l : List Int) (w : World) (hr : Kd.C (Kd.int .i64) w A l.length l)
    (h0 : X = [] → m = 0 ∧ ok = false) (h1 : ∀ y ys, X = y :: ys → m = y ∧ ok = true)
    (D1 : Hid (∀ w, Calls Try.prog 12 #[.int .u64 x] w fun e w' => ∃ v0_ : Value, e = .returned (v0_) ∧ Kd.R (Kd.int .i64) 3 w' w.heap.size (fun _ => True) v0_ X ∧ Below w.heap.size w w'))
    (D2 : Hid (∀ w, Calls Try.prog 13 #[.int .u64 x] w fun e w' => e = .returned (.tuple #[.int .i64 m, .bool ok]) ∧ Below w.heap.size w w'))
    (D3 : Hid (∀ w, Calls Try.prog 14 #[.int .u64 x] w fun e w' => e = .returned (.int .i64 (X.length : Int)) ∧ Below w.heap.size w w'))
    (D4 : Hid (∀ w, Calls Try.prog 16 #[.int .u64 x] w fun e w' => ∃ v0_ : Value, e = .returned (v0_) ∧ Kd.R (Kd.int .i64) 3 w' w.heap.size (fun _ => True) v0_ X ∧ Below w.heap.size w w'))
    (D5 : Hid (∀ A c A' c' w, Kd.C (Kd.int .i64) w A X.length X → X.length ≤ c → Kd.C (Kd.int .i64) w A' X.length X → X.length ≤ c' → Calls Try.prog 15 #[.slice A X.length c, .slice A' X.length c'] w fun e w' => e = .returned (.bool true) ∧ Drawn0 w w'))
    (D6 : Hid (∀ w, Kd.C (Kd.int .i64) w A l.length l → Calls Try.prog 17 #[.slice A l.length c] w fun e w' => e = .returned (.int .u64 z) ∧ Drawn0 w w'))
    (D7 : Hid (∀ w, Kd.C (Kd.int .i64) w A l.length l → Calls Try.prog 18 #[.slice A l.length c] w fun e w' => e = .returned (.int .u64 z) ∧ Drawn0 w w'))
    (D8 : Hid (∀ w, Calls Try.prog 19 #[] w fun e w' => e = .returned (.bool true) ∧ Below w.heap.size w w')) :
    Calls Try.prog 3 #[.int .u64 x, .slice A l.length c] w fun e w' => e = .returned (.bool true) ∧ Below w.heap.size w w' := by
  have HR := Lib.hid hr
  clear hr
  cases X with
  | nil =>
    obtain ⟨rfl, rfl⟩ := h0 rfl
    clear h0 h1
    go_enter Try.func3, Try.ntmps3
    go_wp2_with fail
    refine (D1.out _).mono ?_
    rintro e w1 ⟨v1, rfl, ho1, hb1⟩
    obtain ⟨A1, c1, rfl, hc1, hk1⟩ := Kd.R_reads ho1
    go_wp2_with fail
    refine (D2.out _).mono ?_
    rintro e w2 ⟨rfl, hb2⟩
    have hk2 := Lib.hid (Kd.C_below hk1 hb2)
    have HB2 := Lib.hid (hb1.trans (hb2.mono hb1.size))
    clear hk1 ho1 hb1 hb2
    go_wp2_with fail
    refine (D3.out _).mono ?_
    rintro e w3 ⟨rfl, hb3⟩
    have hk3 := Lib.hid (Kd.C_below hk2.out hb3)
    have HB3 := Lib.hid (HB2.out.trans (hb3.mono HB2.out.size))
    clear hk2 HB2 hb3
    go_wp2_with fail
    refine (D4.out _).mono ?_
    rintro e w4 ⟨v2, rfl, ho4, hb4⟩
    obtain ⟨A2, c2, rfl, hc2, hk4⟩ := Kd.R_reads ho4
    have HK4 := Lib.hid hk4
    have hk5 := Lib.hid (Kd.C_below hk3.out hb4)
    have HB4 := Lib.hid (HB3.out.trans (hb4.mono HB3.out.size))
    clear hk3 HB3 hb4 hk4 ho4
    go_wp2_with fail
    refine (D5.out _ _ _ _ _ HK4.out hc2 hk5.out hc1).mono ?_
    rintro e w5 ⟨rfl, hd5⟩
    have hb5 : Below w.heap.size w w5 := by obtain ⟨nd, rfl⟩ := hd5; exact bl_drew HB4.out nd
    have HB5 := Lib.hid hb5
    clear hb5 hd5
    clear HB4 HK4 hk5
    go_wp2_with fail
    have hl6 := Kd.C_below HR.out HB5.out
    refine (D6.out _ hl6).mono ?_
    rintro e w6 ⟨rfl, hd6⟩
    have hb6 : Below w.heap.size w w6 := by obtain ⟨nd, rfl⟩ := hd6; exact bl_drew HB5.out nd
    have HB6 := Lib.hid hb6
    clear hb6 hd6
    clear HB5 hl6
    go_wp2_with fail
    have hl7 := Kd.C_below HR.out HB6.out
    refine (D7.out _ hl7).mono ?_
    rintro e w7 ⟨rfl, hd7⟩
    have hb7 : Below w.heap.size w w7 := by obtain ⟨nd, rfl⟩ := hd7; exact bl_drew HB6.out nd
    have HB7 := Lib.hid hb7
    clear hb7 hd7
    clear HB6 hl7
    go_wp2_with fail
    refine (D8.out _).mono ?_
    rintro e w8 ⟨rfl, hb8⟩
    have HB8 := Lib.hid (HB7.out.trans (hb8.mono HB7.out.size))
    clear HB7 hb8
    go_wp2_with fail
    go_ret
    exact ⟨rfl, HB8.out⟩
  | cons y ys =>
    obtain ⟨rfl, rfl⟩ := h1 y ys rfl
    clear h0 h1
    go_enter Try.func3, Try.ntmps3
    go_wp2_with fail
    refine (D1.out _).mono ?_
    rintro e w1 ⟨v1, rfl, ho1, hb1⟩
    obtain ⟨A1, c1, rfl, hc1, hk1⟩ := Kd.R_reads ho1
    go_wp2_with fail
    refine (D2.out _).mono ?_
    rintro e w2 ⟨rfl, hb2⟩
    have hk2 := Lib.hid (Kd.C_below hk1 hb2)
    have HB2 := Lib.hid (hb1.trans (hb2.mono hb1.size))
    clear hk1 ho1 hb1 hb2
    have hpos : (0 : Int) < ((m :: ys).length : Int) := by simp only [List.length_cons]; omega
    have hR := readsInt_of_C hk2.out
    obtain ⟨ad, rfl, hcell⟩ := hR.2.2 (by simp)
    have hcell0 : w2.cell? ad = some (.int .i64 m) := by have := hcell 0 (by simp); rw [show ad.add 0 = ad from rfl] at this; exact this
    clear hR hcell
    go_wp2_with fail
    refine (D3.out _).mono ?_
    rintro e w3 ⟨rfl, hb3⟩
    have hk3 := Lib.hid (Kd.C_below hk2.out hb3)
    have HB3 := Lib.hid (HB2.out.trans (hb3.mono HB2.out.size))
    clear hk2 HB2 hb3
    go_wp2_with fail
    refine (D4.out _).mono ?_
    rintro e w4 ⟨v2, rfl, ho4, hb4⟩
    obtain ⟨A2, c2, rfl, hc2, hk4⟩ := Kd.R_reads ho4
    have HK4 := Lib.hid hk4
    have hk5 := Lib.hid (Kd.C_below hk3.out hb4)
    have HB4 := Lib.hid (HB3.out.trans (hb4.mono HB3.out.size))
    clear hk3 HB3 hb4 hk4 ho4
    go_wp2_with fail
    refine (D5.out _ _ _ _ _ HK4.out hc2 hk5.out hc1).mono ?_
    rintro e w5 ⟨rfl, hd5⟩
    have hb5 : Below w.heap.size w w5 := by obtain ⟨nd, rfl⟩ := hd5; exact bl_drew HB4.out nd
    have HB5 := Lib.hid hb5
    clear hb5 hd5
    clear HB4 HK4 hk5
    go_wp2_with fail
    have hl6 := Kd.C_below HR.out HB5.out
    refine (D6.out _ hl6).mono ?_
    rintro e w6 ⟨rfl, hd6⟩
    have hb6 : Below w.heap.size w w6 := by obtain ⟨nd, rfl⟩ := hd6; exact bl_drew HB5.out nd
    have HB6 := Lib.hid hb6
    clear hb6 hd6
    clear HB5 hl6
    go_wp2_with fail
    have hl7 := Kd.C_below HR.out HB6.out
    refine (D7.out _ hl7).mono ?_
    rintro e w7 ⟨rfl, hd7⟩
    have hb7 : Below w.heap.size w w7 := by obtain ⟨nd, rfl⟩ := hd7; exact bl_drew HB6.out nd
    have HB7 := Lib.hid hb7
    clear hb7 hd7
    clear HB6 hl7
    go_wp2_with fail
    refine (D8.out _).mono ?_
    rintro e w8 ⟨rfl, hb8⟩
    have HB8 := Lib.hid (HB7.out.trans (hb8.mono HB7.out.size))
    clear HB7 hb8
    go_wp2_with fail
    go_ret
    exact ⟨rfl, HB8.out⟩
theorem holds (a : Int) (wa : (Lit.int .u64 a).wf = true) (A : Option Addr) (c : Nat) (l : List Int) (w : World) (hr : Kd.C (Kd.int .i64) w A l.length l) (hc : l.length ≤ c) (hl : l.length ≤ maxLen) :
    Calls Try.prog 3 #[.int .u64 a, .slice A l.length c] w fun e w' => e = .returned (.bool true) ∧ Below w.heap.size w w' := by
  obtain ⟨x, rfl, hx⟩ := u64_of wa
  unfold maxLen at hl
  have hlen : (intsN (list x)).length ≤ 64 := by
    unfold intsN
    rw [List.length_map, list_length]
    exact pop_le 64 x
  have hlen2 : ((intsN (list x)).length : Int) = (pop 64 x : Nat) := by unfold intsN; rw [List.length_map, list_length]
  have C3 := fun w => bits_Count.calls (x : Int) _ w (count_p x hx)
  rw [← hlen2] at C3
  refine tells (x : Int) (intsN (list x)) (leastN x : Nat) (ofN l : Nat) (decide (x ≠ 0)) A c l w hr ?_ ?_ (fun w => twainref01_List.calls 200 (x : Int) _ w (ref_list_p x hx 200 (by omega))) (fun w => bits_Lowest.calls (x : Int) _ _ w (lowest_p x hx)) C3
    (fun w => bits_List.calls (x : Int) _ w (list_p x hx)) (fun A c A' c' w h1 h2 h3 h4 => twainref01_Ints.calls 200 A c (intsN (list x)) A' c' (intsN (list x)) true w h1 h2 h3 h4 (ints_p _ (by omega) 200 (by omega)))
    (fun w h => bits_Of.calls (l.length + 100) A c l _ w h hc (of_p l (by omega) _ (by omega))) (fun w h => twainref01_Of.calls (l.length + 100) A c l _ w h hc (ref_of_p l (by omega) _ (by omega))) (fun w => twainlaw01_lives.calls 200 true w (lives_p 200 (by omega)))
  · intro h
    have hn : list x = [] := by simpa [intsN] using h
    refine ⟨by simp [leastN, hn], ?_⟩
    rw [← list_nonempty x hx, hn]
    rfl
  · intro y ys h
    have hn : (intsN (list x)).headD 0 = y := by rw [h]; rfl
    refine ⟨?_, ?_⟩
    · rw [← hn]; unfold leastN intsN; cases list x <;> rfl
    · rw [← list_nonempty x hx]
      have : (intsN (list x)).length = ys.length + 1 := by rw [h]; rfl
      unfold intsN at this
      rw [List.length_map] at this
      simp; omega
end Go.Proofs.Yteclkapffhjddaa.BitsTells
