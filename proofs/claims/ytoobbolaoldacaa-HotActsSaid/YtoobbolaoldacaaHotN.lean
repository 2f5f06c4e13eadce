/-
  The example that each statement of layer 9 plays, and a set that no call made.
-/
import Derived.Test.YtoobbolaoldacaaHotU
import Derived.BigQuiet
namespace Go.Proofs.Ytoobbolaoldacaa.HotW
open Go.RowKit Go.Proofs.Ytoobbolaoldacaa Go.Proofs.Ytoobbolaoldacaa.Hot Go.Proofs.Ytoobbolaoldacaa.HotBP Go.Proofs.Ytoobbolaoldacaa.BitsPlain Go.Proofs.Ytoobbolaoldacaa.RowOwn Go.Proofs.Ytoobbolaoldacaa.CloneI Go.Proofs.YtoobbolaoldacaaW.PrintWords Go.Proofs.YtoobbolaoldacaaW.PrintMore
set_option linter.unusedVariables false
theorem bl_to {g : Nat} {w W W' : World} (h : Below g w W) (h' : Below W.heap.size W W') (hg : g ≤ W.heap.size) : Below g w W' := h.trans (h'.mono hg)
/-- one use, at a set of its own -/
theorem use_at (m : Int) (L M : List Int) (need busy : Nat) (a b : Bool) (hm : 0 < m) (hn : need < 2 ^ 64) (hb : busy < 2 ^ 64) (hL : L.length ≤ 50000) (h : useN m L need busy = ((a, b), M)) (g base : Nat) (S : Nat → Prop) (w0 u : World) (hH : HotAt u g base m L S) (hbl : Below base w0 u) :
    Calls Try.prog 22 #[.pointer (some ⟨g, 0, none⟩), .int .u64 (need : Int), .int .u64 (busy : Int)] u fun e w' => e = .returned (.tuple #[.bool a, .bool b]) ∧ ∃ S', HotAt w' g base m M S' ∧ Below base w0 w' := by
  refine (Use_c g base m L S need busy u hm hn hb hL hH).mono ?_
  rintro e w' ⟨rfl, S', h1, h2, h3⟩
  rw [h]
  rw [h] at h1
  exact ⟨rfl, S', h1, hot_bl hH h3 hbl⟩
theorem lives09 (w : World) : Calls Try.prog 19 #[] w fun e w' => e = .returned (.bool true) ∧ Below w.heap.size w w' := by
  have N := Lib.hid (New_yes 2 w (by omega) (by omega))
  have U1 := Lib.hid (use_at 2 [] [1] 2 0 true true (by omega) (by omega) (by omega) (by simp) (by decide +kernel))
  have U2 := Lib.hid (use_at 2 [1] [1, 2] 4 0 true true (by omega) (by omega) (by omega) (by simp) (by decide +kernel))
  have U3 := Lib.hid (use_at 2 [1, 2] [1, 3] 8 2 true true (by omega) (by omega) (by omega) (by simp) (by decide +kernel))
  have M4 := Lib.hid (fun (g : Nat) (u : World) S (h : HotAt u g g 2 [1, 3] S) => Mask_c g g 2 [1, 3] S u (by omega) h)
  rw [show ofN [1, 3] = 10 by decide +kernel] at M4
  rw [show ((2 : Nat) : Int) = 2 from rfl, show ((0 : Nat) : Int) = 0 from rfl] at U1
  rw [show ((4 : Nat) : Int) = 4 from rfl, show ((0 : Nat) : Int) = 0 from rfl] at U2
  rw [show ((8 : Nat) : Int) = 8 from rfl, show ((2 : Nat) : Int) = 2 from rfl] at U3
  simp only [show ((10 : Nat) : Int) = 10 from rfl] at M4
  generalize hg : w.heap.size = g at N
  go_enter Try.func19, Try.ntmps19
  go_wp2_with fail
  refine N.out.mono ?_
  rintro e w1 ⟨rfl, hw1⟩
  have HN1 : Hid (HotAt w1 g g 2 [] (fun k => k = g)) := Lib.hid (new_hot w1 g 2 (by rw [← hw1, ← hg]; exact new_at _ _))
  have HB1 : Hid (Below g w w1) := Lib.hid (by rw [← hw1, ← hg]; exact bl_all (Below.refl _ w) _)
  clear hw1 N
  go_wp2_with fail
  refine (U1.out g g _ w _ HN1.out HB1.out).mono ?_
  rintro e w2 ⟨rfl, S2, h2, b2⟩
  have HN2 := Lib.hid h2
  have HB2 := Lib.hid b2
  clear h2 b2 HN1 HB1
  go_wp2_with fail
  refine (U2.out g g _ w _ HN2.out HB2.out).mono ?_
  rintro e w3 ⟨rfl, S3, h3, b3⟩
  have HN3 := Lib.hid h3
  have HB3 := Lib.hid b3
  clear h3 b3 HN2 HB2
  go_wp2_with fail
  refine (U3.out g g _ w _ HN3.out HB3.out).mono ?_
  rintro e w4 ⟨rfl, S4, h4, b4⟩
  have HN4 := Lib.hid h4
  have HB4 := Lib.hid b4
  clear h4 b4 HN3 HB3
  go_wp2_with fail
  refine (M4.out g _ _ HN4.out).mono ?_
  rintro e w5 ⟨rfl, n5, rfl⟩
  go_wp2_with fail
  go_ret
  exact ⟨rfl, bl_drew HB4.out n5⟩
/-- a set that no call made: nil, or a zero one -/
def NoAt (w : World) (v : Value) : Prop := v = .pointer none ∨ ∃ g, v = .pointer (some ⟨g, 0, none⟩) ∧ w.cell? ⟨g, 0, none⟩ = some (.int .i64 0) ∧ g < w.heap.size
theorem no_bl {w w' : World} {v : Value} (h : NoAt w v) (hb : Below w.heap.size w w') : NoAt w' v := by
  rcases h with h | ⟨g, h, h1, h2⟩
  · exact .inl h
  · exact .inr ⟨g, h, (hb.cell (p := ⟨g, 0, none⟩) h2).trans h1, Nat.lt_of_lt_of_le h2 hb.size⟩
theorem is_no (v : Value) (w : World) (h : NoAt w v) : Calls Try.prog 64 #[v] w fun e w' => e = .returned (.bool false) ∧ w = w' := by
  rcases h with rfl | ⟨g, rfl, h, _⟩
  · exact is_nil w
  · exact is_none g w h
theorem Load_no (v : Value) (x : Int) (w : World) (h : NoAt w v) : Calls Try.prog 20 #[v, .int .u64 x] w fun e w' => e = .returned (.tuple #[]) ∧ w = w' := by
  have D := Lib.hid (is_no v w h)
  clear h
  go_enter Try.func20, Try.ntmps20
  go_wp2_with fail
  refine D.out.mono ?_
  rintro e w' ⟨rfl, rfl⟩
  go_wp2_with fail
  go_end0
  exact ⟨rfl, rfl⟩
theorem Mask_no (v : Value) (w : World) (h : NoAt w v) : Calls Try.prog 23 #[v] w fun e w' => e = .returned (.int .u64 0) ∧ w = w' := by
  have D := Lib.hid (is_no v w h)
  clear h
  go_enter Try.func23, Try.ntmps23
  go_wp2_with fail
  refine D.out.mono ?_
  rintro e w' ⟨rfl, rfl⟩
  go_wp2_with fail
  go_ret
  exact ⟨rfl, rfl⟩
theorem Order_no (v : Value) (w : World) (h : NoAt w v) : Calls Try.prog 39 #[v] w fun e w' => e = .returned (.slice none 0 0) ∧ w = w' := by
  have D := Lib.hid (is_no v w h)
  clear h
  go_enter Try.func39, Try.ntmps39
  go_wp2_with fail
  refine D.out.mono ?_
  rintro e w' ⟨rfl, rfl⟩
  go_wp2_with fail
  go_ret
  exact ⟨rfl, rfl⟩
theorem Fits_no (v : Value) (x y : Int) (w : World) (h : NoAt w v) : Calls Try.prog 21 #[v, .int .u64 x, .int .u64 y] w fun e w' => e = .returned (.bool false) ∧ Drawn0 w w' := by
  have D := Lib.hid (fun n => Calls.quiet_of (w := w) (n := n) ((is_no v (w.drewN n) (no_bl h (bl_drew (Below.refl _ _) n))).mono fun e w' ⟨he, hw⟩ => ⟨he, 0, hw.symm⟩))
  clear h
  go_enter Try.func21, Try.ntmps21
  go_wp2_with fail
  go_quiet (first | (go_at_call 64; exact D.out _))
  go_wp2_with fail
  go_ret
  exact ⟨rfl, _, rfl⟩
theorem Use_no (v : Value) (x y : Int) (w : World) (h : NoAt w v) : Calls Try.prog 22 #[v, .int .u64 x, .int .u64 y] w fun e w' => e = .returned (.tuple #[.bool false, .bool false]) ∧ Below w.heap.size w w' := by
  have D := Lib.hid (Fits_no v x y ((w.alloc (.cells #[.int .u64 x] 42)).alloc (.cells #[.int .u64 y] 42)) (no_bl h (bl_all (bl_all (Below.refl _ _) _) _)))
  clear h
  go_enter Try.func22, Try.ntmps22
  go_wp2_with fail
  refine D.out.mono ?_
  rintro e w' ⟨rfl, n, rfl⟩
  go_wp2_with fail
  go_ret2
  exact ⟨rfl, bl_drew (bl_all (bl_all (Below.refl _ _) _) _) n⟩
theorem none_walk (i0 i1 i2 : Int) (w : World) : Calls Try.prog 8 #[.agg #[.int .i64 i0, .int .u64 i1, .int .u64 i2]] w fun e w' => e = .returned (.bool true) ∧ Below w.heap.size w w' := by
  have LV := Lib.hid (lives09)
  have LD := Lib.hid Load_no
  have US := Lib.hid Use_no
  have FF := Lib.hid Fits_no
  have MM := Lib.hid Mask_no
  have OO := Lib.hid Order_no
  have hu := Try.underlying81
  go_enter Try.func8, Try.ntmps8
  go_wp2_with fail
  go_loopw [13] (fun i wr => ∃ (k : Nat), k ≤ 2 ∧ i = .int .i64 k ∧
      wr.heap[w.heap.size]? = some (.cells #[.int .i64 i0, .int .u64 i1, .int .u64 i2] 81 (0, 0)) ∧ wr.heap[w.heap.size + 1]? = some (.cells #[.int .i64 0, .slice none 0 0] 88 (0, 0)) ∧ wr.heap[w.heap.size + 2]? = some (.cells #[.pointer none, .pointer (some ⟨w.heap.size + 1, 0, none⟩)] 45 (0, 0)) ∧ Below w.heap.size w wr)
    (fun i _ => 2 - (intOf i).toNat)
  case atStart =>
    exact ⟨0, Nat.zero_le _, rfl, old_at (old_at (new_at _ _) _) _, old_at (new_at1 _ _ _) _, new_at2 _ _ _ _, bl_all (bl_all (bl_all (Below.refl _ w) _) _) _⟩
  case round =>
    obtain ⟨k, hk, rfl, ha, hb, hb2, hB⟩ := hrel
    have HA := Lib.hid ha
    have HB := Lib.hid hb
    have HB2 := Lib.hid hb2
    have HBB := Lib.hid hB
    have hsz := lt_at hb2
    have c1 : wr.cell? ⟨w.heap.size, 1, none⟩ = some (.int .u64 i1) := blk_cell ha 1
    have c2 : wr.cell? ⟨w.heap.size, 2, none⟩ = some (.int .u64 i2) := blk_cell ha 2
    clear ha hb hb2 hB
    by_cases hlt : k < 2
    · have hlt' : (k : Int) < 2 := by omega
      obtain ⟨v, hv, hn⟩ : ∃ v, wr.cell? ⟨w.heap.size + 2, k, none⟩ = some v ∧ NoAt wr v := by
        rcases (show k = 0 ∨ k = 1 by omega) with rfl | rfl
        · exact ⟨_, blk_cell HB2.out 0, Or.inl rfl⟩
        · exact ⟨_, blk_cell HB2.out 1, Or.inr ⟨_, rfl, blk_cell HB.out 0, lt_at HB.out⟩⟩
      have HN := Lib.hid hn
      clear hn
      go_wp2_with fail
      refine (LD.out _ _ _ HN.out).mono ?_
      rintro e w' ⟨rfl, rfl⟩
      go_wp2_with fail
      refine (US.out _ _ _ _ HN.out).mono ?_
      rintro e w1 ⟨rfl, hb1⟩
      have HN1 := Lib.hid (no_bl HN.out hb1)
      have HA1 := Lib.hid (keep_at_all HA.out hb1)
      have HBx := Lib.hid (keep_at_all HB.out hb1)
      have HB2x := Lib.hid (keep_at_all HB2.out hb1)
      have HBBx := Lib.hid (bl_to HBB.out hb1 (by omega))
      have d1 : w1.cell? ⟨w.heap.size, 1, none⟩ = some (.int .u64 i1) := blk_cell HA1.out 1
      have d2 : w1.cell? ⟨w.heap.size, 2, none⟩ = some (.int .u64 i2) := blk_cell HA1.out 2
      clear hb1 HA HB HB2 HBB HN
      go_wp2_with fail
      refine (FF.out _ _ _ _ HN1.out).mono ?_
      rintro e w2 ⟨rfl, n2, rfl⟩
      have HN2 : Hid (NoAt (w1.drewN n2) v) := Lib.hid HN1.out
      go_wp2_with fail
      refine (MM.out _ _ HN2.out).mono ?_
      rintro e w' ⟨rfl, rfl⟩
      go_wp2_with fail
      refine (OO.out _ _ HN2.out).mono ?_
      rintro e w' ⟨rfl, rfl⟩
      go_wp2_with fail
      go_roundw
      case rel => exact ⟨k + 1, by omega, by go_num, HA1.out, HBx.out, HB2x.out, bl_drew HBBx.out _⟩
      case measure => simp [intOf]; omega
    · have hlt' : ¬ (k : Int) < 2 := by omega
      go_wp2_with fail
      refine (LV.out _).mono ?_
      rintro e w' ⟨rfl, hb3⟩
      go_wp2_with fail
      go_ret
      exact ⟨rfl, bl_to HBB.out hb3 (by omega)⟩
end Go.Proofs.Ytoobbolaoldacaa.HotW
