/-
  The walk of HotKeeps.
-/
import Derived.Test.YtoobbolaoldacaaHotP
import Derived.Test.YtoobbolaoldacaaHotN
namespace Go.Proofs.Ytoobbolaoldacaa.HotW
open Go.RowKit Go.Proofs.Ytoobbolaoldacaa Go.Proofs.Ytoobbolaoldacaa.Hot Go.Proofs.Ytoobbolaoldacaa.HotBP Go.Proofs.Ytoobbolaoldacaa.HotP Go.Proofs.Ytoobbolaoldacaa.BitsPlain Go.Proofs.Ytoobbolaoldacaa.RowOwn Go.Proofs.Ytoobbolaoldacaa.CloneI Go.Proofs.YtoobbolaoldacaaW.PrintWords Go.Proofs.YtoobbolaoldacaaW.PrintMore
set_option linter.unusedVariables false
theorem rlist_c (x : Nat) (hx : x < 2 ^ 64) (w : World) : Calls Try.prog 24 #[.int .u64 (x : Int)] w fun e w' => ∃ v0_ : Value, e = .returned (v0_) ∧ Kd.R (Kd.int .i64) 3 w' w.heap.size (fun _ => True) v0_ (intsN (list x)) ∧ Below w.heap.size w w' :=
  twainref01_List.calls 200 _ _ w (ref_list_p x hx 200 (by omega))
theorem keeps_walk (p : Int) (mask need busy : Nat) (hM : mask < 2 ^ 64) (hn : need < 2 ^ 64) (hb : busy < 2 ^ 64) (w : World) :
    Calls Try.prog 4 #[.int .i64 p, .agg #[.int .u64 (mask : Int), .int .u64 (need : Int), .int .u64 (busy : Int)]] w fun e w' => e = .returned (.bool true) ∧ Below w.heap.size w w' := by
  have LV := Lib.hid (lives09)
  by_cases hp : p < 1 ∨ 16 < p
  · have NN := Lib.hid (fun w => New_no p w hp)
    clear hp
    go_enter Try.func4, Try.ntmps4
    go_wp2_with fail
    go_quiet (fail)
    go_wp2_with fail
    refine (NN.out _).mono ?_
    rintro e w1 ⟨rfl, rfl⟩
    go_wp2_with fail
    refine (LV.out _).mono ?_
    rintro e w2 ⟨rfl, hb2⟩
    go_wp2_with fail
    go_ret
    exact ⟨rfl, bl_to (bl_drew (bl_all (Below.refl _ _) _) _) hb2 (by simp [World.size_alloc, World.drewN])⟩
  have hp1 : 1 ≤ p := by omega
  have hp2 : p ≤ 16 := by omega
  have NY := Lib.hid (fun w => New_yes p w hp1 hp2)
  have LO := Lib.hid (fun g S u (h : HotAt u g g p [] S) => Load_c g g p [] S mask u (by omega) hM h)
  have hl64 := list_len mask
  have FI := Lib.hid (fun g S u (h : HotAt u g g p (intsN (list mask)) S) => Fits_c g g p (intsN (list mask)) S need busy u (by omega) hn hb h)
  have US := Lib.hid (fun (M : List Int) (a b : Bool) h g S (w0 u : World) (h1 : HotAt u g g p (intsN (list mask)) S) h2 => use_at p (intsN (list mask)) M need busy a b (by omega) hn hb (by omega) h g g S w0 u h1 h2)
  have MK := Lib.hid (fun M g S u (h : HotAt u g g p M S) => Mask_c g g p M S u (by omega) h)
  cases hf : fitsN p (intsN (list mask)) need busy with
  | false =>
    have hu : useN p (intsN (list mask)) need busy = ((false, false), intsN (list mask)) := by unfold useN; rw [hf]; rfl
    have US1 := Lib.hid (US.out _ _ _ hu)
    have MK1 := Lib.hid (MK.out (intsN (list mask)))
    rw [show ofN (intsN (list mask)) = mask from ofN_list mask hM] at MK1
    rw [hf] at FI
    clear US MK hu hf hl64 hM hn hb
    generalize intsN (list mask) = M at LO FI US1 MK1
    go_enter Try.func4, Try.ntmps4
    go_wp2_with fail
    go_quiet (fail)
    rename_i nq
    have HB0 : Hid (Below w.heap.size w ((w.alloc (.cells #[.int .u64 (mask : Int), .int .u64 (need : Int), .int .u64 (busy : Int)] 44)).drewN nq)) := Lib.hid (bl_drew (bl_all (Below.refl _ _) _) _)
    have hs0 : w.heap.size ≤ ((w.alloc (.cells #[.int .u64 (mask : Int), .int .u64 (need : Int), .int .u64 (busy : Int)] 44)).drewN nq).heap.size := HB0.out.size
    generalize ((w.alloc (.cells #[.int .u64 (mask : Int), .int .u64 (need : Int), .int .u64 (busy : Int)] 44)).drewN nq) = W0 at HB0 hs0 ⊢
    go_wp2_with fail
    generalize hg : W0.heap.size = g at hs0
    refine (NY.out W0).mono ?_
    rintro e w1 ⟨rfl, hw1⟩
    have HN1 : Hid (HotAt w1 g g p [] (fun k => k = g)) := Lib.hid (new_hot w1 g p (by rw [← hw1, ← hg]; exact new_at _ _))
    have HB1 : Hid (Below g W0 w1) := Lib.hid (by rw [← hw1, ← hg]; exact bl_all (Below.refl _ _) _)
    rw [hg]
    clear hw1
    go_wp2_with fail
    refine (LO.out g _ _ HN1.out).mono ?_
    rintro e w2 ⟨rfl, S2, h2, _, o2⟩
    have HN2 := Lib.hid h2
    have HB2 := Lib.hid (hot_bl HN1.out o2 HB1.out)
    clear h2 o2 HN1 HB1
    go_wp2_with fail
    refine (FI.out g _ _ HN2.out).mono ?_
    rintro e w3 ⟨rfl, b3⟩
    have HN3 := Lib.hid (hot_below HN2.out b3)
    have HB3 := Lib.hid (bl_to HB2.out b3 (by have := hot_lt HN2.out; omega))
    clear b3 HN2 HB2
    go_wp2_with fail
    refine (US1.out g _ _ _ HN3.out HB3.out).mono ?_
    rintro e w4 ⟨rfl, S4, h4, b4⟩
    have HN4 := Lib.hid h4
    have HB4 := Lib.hid b4
    clear h4 b4 HN3 HB3
    go_wp2_with fail
    refine (MK1.out g _ _ HN4.out).mono ?_
    rintro e w5 ⟨rfl, n5, hw5⟩
    have HB5 : Hid (Below g W0 w5) := Lib.hid (by rw [hw5]; exact bl_drew HB4.out _)
    have hs5 : g ≤ w5.heap.size := by rw [hw5]; have := hot_lt HN4.out; show g ≤ w4.heap.size; omega
    clear HN4 HB4 hw5
    go_wp2_with fail
    refine (LV.out _).mono ?_
    rintro e w6 ⟨rfl, hb6⟩
    go_wp2_with fail
    go_ret
    exact ⟨rfl, HB0.out.trans ((bl_to HB5.out hb6 hs5).mono (by omega))⟩
  | true =>
    obtain ⟨now, hnow⟩ : ∃ now, now = ofN (useN p (intsN (list mask)) need busy).2 := ⟨_, rfl⟩
    obtain ⟨z0, z1, z2, z3, z4⟩ := use_bits p mask need busy hM hn hb hf now hnow
    have hu : useN p (intsN (list mask)) need busy = (((useN p (intsN (list mask)) need busy).1.1, true), (useN p (intsN (list mask)) need busy).2) := by unfold useN; rw [hf]; rfl
    have US1 := Lib.hid (US.out _ _ _ hu)
    have MK1 := Lib.hid (MK.out (useN p (intsN (list mask)) need busy).2)
    rw [← hnow] at MK1
    rw [hf] at FI
    have RL := Lib.hid (rlist_c now z0)
    have hlen : ((intsN (list now)).length : Int) ≤ p := by
      have : (intsN (list now)).length = pop 64 now := by unfold intsN; rw [List.length_map, list_length]
      rw [this]; exact z4
    have q1 : Go.bits .and .u64 (now : Int) (need : Int) = (need : Int) := by rw [u64_and_nat _ _ z0 hn, z1]
    have q2 : Go.bits .and .u64 (now : Int) (busy : Int) = ((now &&& busy : Nat) : Int) := u64_and_nat _ _ z0 hb
    have q3 : Go.bits .and .u64 ((now &&& busy : Nat) : Int) (mask : Int) = ((busy &&& mask : Nat) : Int) := by rw [u64_and_nat _ _ (Nat.lt_of_le_of_lt Nat.and_le_left z0) hM, z2]
    have q4 : Go.bits .and .u64 (busy : Int) (mask : Int) = ((busy &&& mask : Nat) : Int) := u64_and_nat _ _ hb hM
    have q5 : Go.bits .andNot .u64 (now : Int) (mask : Int) = ((now &&& (2 ^ 64 - 1 - mask) : Nat) : Int) := by rw [u64_andNot_nat _ _ z0 hM]
    have q6 : Go.bits .andNot .u64 ((now &&& (2 ^ 64 - 1 - mask) : Nat) : Int) (need : Int) = 0 := by
      have h := u64_andNot_nat (now &&& (2 ^ 64 - 1 - mask)) need (Nat.lt_of_le_of_lt Nat.and_le_left z0) hn
      rw [h, show (18446744073709551615 : Nat) = 2 ^ 64 - 1 from rfl, z3]
      rfl
    clear US MK hu hf hl64 hM hn hb z0 z1 z2 z3 z4 hnow
    generalize now &&& (2 ^ 64 - 1 - mask) = t5 at q5 q6
    generalize now &&& busy = t2 at q2 q3
    generalize busy &&& mask = t4 at q3 q4
    generalize intsN (list now) = R at RL hlen
    generalize (useN p (intsN (list mask)) need busy).2 = U at US1 MK1
    generalize (useN p (intsN (list mask)) need busy).1.1 = ba at US1
    generalize intsN (list mask) = M at LO FI US1 MK1
    go_enter Try.func4, Try.ntmps4
    go_wp2_with fail
    go_quiet (fail)
    rename_i nq
    have HB0 : Hid (Below w.heap.size w ((w.alloc (.cells #[.int .u64 (mask : Int), .int .u64 (need : Int), .int .u64 (busy : Int)] 44)).drewN nq)) := Lib.hid (bl_drew (bl_all (Below.refl _ _) _) _)
    have hs0 : w.heap.size ≤ ((w.alloc (.cells #[.int .u64 (mask : Int), .int .u64 (need : Int), .int .u64 (busy : Int)] 44)).drewN nq).heap.size := HB0.out.size
    generalize ((w.alloc (.cells #[.int .u64 (mask : Int), .int .u64 (need : Int), .int .u64 (busy : Int)] 44)).drewN nq) = W0 at HB0 hs0 ⊢
    go_wp2_with fail
    generalize hg : W0.heap.size = g at hs0
    refine (NY.out W0).mono ?_
    rintro e w1 ⟨rfl, hw1⟩
    have HN1 : Hid (HotAt w1 g g p [] (fun k => k = g)) := Lib.hid (new_hot w1 g p (by rw [← hw1, ← hg]; exact new_at _ _))
    have HB1 : Hid (Below g W0 w1) := Lib.hid (by rw [← hw1, ← hg]; exact bl_all (Below.refl _ _) _)
    rw [hg]
    clear hw1
    go_wp2_with fail
    refine (LO.out g _ _ HN1.out).mono ?_
    rintro e w2 ⟨rfl, S2, h2, _, o2⟩
    have HN2 := Lib.hid h2
    have HB2 := Lib.hid (hot_bl HN1.out o2 HB1.out)
    clear h2 o2 HN1 HB1
    go_wp2_with fail
    refine (FI.out g _ _ HN2.out).mono ?_
    rintro e w3 ⟨rfl, b3⟩
    have HN3 := Lib.hid (hot_below HN2.out b3)
    have HB3 := Lib.hid (bl_to HB2.out b3 (by have := hot_lt HN2.out; omega))
    clear b3 HN2 HB2
    go_wp2_with fail
    refine (US1.out g _ _ _ HN3.out HB3.out).mono ?_
    rintro e w4 ⟨rfl, S4, h4, b4⟩
    have HN4 := Lib.hid h4
    have HB4 := Lib.hid b4
    clear h4 b4 HN3 HB3
    go_wp2_with fail
    refine (MK1.out g _ _ HN4.out).mono ?_
    rintro e w5 ⟨rfl, n5, hw5⟩
    have HB5 : Hid (Below g W0 w5) := Lib.hid (by rw [hw5]; exact bl_drew HB4.out _)
    have hs5 : g ≤ w5.heap.size := by rw [hw5]; have := hot_lt HN4.out; show g ≤ w4.heap.size; omega
    clear HN4 HB4 hw5
    go_wp2_with fail
    refine (RL.out _).mono ?_
    rintro e w6 ⟨v, rfl, hr, hb6⟩
    obtain ⟨A1, c1, rfl, hc1, hkr⟩ := Kd.R_reads hr
    have HB6 := Lib.hid (bl_to HB5.out hb6 hs5)
    have hs6 : g ≤ w6.heap.size := by have := hb6.size; omega
    clear hr hkr hb6
    go_wp2_with fail
    refine (LV.out _).mono ?_
    rintro e w7 ⟨rfl, hb7⟩
    go_wp2_with fail
    go_ret
    exact ⟨rfl, HB0.out.trans ((bl_to HB6.out hb7 hs6).mono (by omega))⟩
end Go.Proofs.Ytoobbolaoldacaa.HotW
