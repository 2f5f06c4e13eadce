/-
  The example that each statement of layer 33 plays, and a net that no call made.
-/
import Derived.Test.YtajpnohhahffbaaNetT
import Derived.Lib.SlBytesConst
namespace Go.Proofs.Ytajpnohhahffbaa.NetW
open Go.RowKit Go.Proofs.Ytajpnohhahffbaa Go.Proofs.Ytajpnohhahffbaa.RowOwn Go.Proofs.Ytajpnohhahffbaa.CloneB Go.Proofs.YtajpnohhahffbaaW.PrintWords Go.Proofs.YtajpnohhahffbaaW.PrintMore
set_option linter.unusedVariables false
/-- a net that no call made: nil, or a zero one -/
def NoAt (w : World) (v : Value) : Prop := v = .pointer none ∨ ∃ g, v = .pointer (some ⟨g, 0, none⟩) ∧ w.cell? ⟨g, 0, none⟩ = some (.bool false)
theorem check_no (v : Value) (d : Int) (w : World) (h : NoAt w v) : Calls Try.prog 69 #[v, .int .i64 d] w fun e w' => e = .returned (.int .i64 1) ∧ w = w' := by
  rcases h with rfl | ⟨g, rfl, h⟩
  · go_enter Try.func69, Try.ntmps69
    go_wp2
    go_ret
    exact ⟨rfl, rfl⟩
  · go_enter Try.func69, Try.ntmps69
    go_wp2
    go_ret
    exact ⟨rfl, rfl⟩
theorem Put_no (v : Value) (d : Int) (A : Option Addr) (n c : Nat) (w : World) (h : NoAt w v) : Calls Try.prog 38 #[v, .int .i64 d, .slice A n c] w fun e w' => e = .returned (.int .i64 1) ∧ w = w' := by
  have D := Lib.hid (fun d => check_no v d w h)
  clear h
  go_enter Try.func38, Try.ntmps38
  go_wp2_with fail
  refine (D.out _).mono ?_
  rintro e w' ⟨rfl, rfl⟩
  go_wp2_with fail
  go_ret
  exact ⟨rfl, rfl⟩
theorem Len_no (v : Value) (d : Int) (w : World) (h : NoAt w v) : Calls Try.prog 46 #[v, .int .i64 d] w fun e w' => e = .returned (.int .i64 0) ∧ w = w' := by
  have D := Lib.hid (fun d => check_no v d w h)
  clear h
  go_enter Try.func46, Try.ntmps46
  go_wp2_with fail
  refine (D.out _).mono ?_
  rintro e w' ⟨rfl, rfl⟩
  go_wp2_with fail
  go_ret
  exact ⟨rfl, rfl⟩
theorem At_no (v : Value) (d i : Int) (w : World) (h : NoAt w v) : Calls Try.prog 44 #[v, .int .i64 d, .int .i64 i] w fun e w' => e = .returned (.tuple #[.slice none 0 0, .int .i64 1]) ∧ w = w' := by
  have D := Lib.hid (fun d => check_no v d w h)
  clear h
  go_enter Try.func44, Try.ntmps44
  go_wp2_with fail
  refine (D.out _).mono ?_
  rintro e w' ⟨rfl, rfl⟩
  go_wp2_with fail
  go_ret2
  exact ⟨rfl, rfl⟩
theorem Take_no (v : Value) (d i : Int) (w : World) (h : NoAt w v) : Calls Try.prog 40 #[v, .int .i64 d, .int .i64 i] w fun e w' => e = .returned (.tuple #[.slice none 0 0, .int .i64 1]) ∧ w = w' := by
  have D := Lib.hid (At_no v d i w h)
  clear h
  go_enter Try.func40, Try.ntmps40
  go_wp2_with fail
  refine D.out.mono ?_
  rintro e w' ⟨rfl, rfl⟩
  go_wp2_with fail
  go_ret2
  exact ⟨rfl, rfl⟩
theorem Double_no (v : Value) (d i : Int) (w : World) (h : NoAt w v) : Calls Try.prog 42 #[v, .int .i64 d, .int .i64 i] w fun e w' => e = .returned (.int .i64 1) ∧ w = w' := by
  have D := Lib.hid (At_no v d i w h)
  clear h
  go_enter Try.func42, Try.ntmps42
  go_wp2_with fail
  refine D.out.mono ?_
  rintro e w' ⟨rfl, rfl⟩
  go_wp2_with fail
  go_ret
  exact ⟨rfl, rfl⟩
theorem str_a : strOfNums [97] = ⟨#[97]⟩ := by decide +kernel
theorem bl_to {g : Nat} {w W W' : World} (h : Below g w W) (h' : Below W.heap.size W W') (hg : g ≤ W.heap.size) : Below g w W' := h.trans (h'.mono hg)
/-- one byte, boxed -/
theorem box_C (w : World) (x : Int) (fr : Nat × Nat) : Kd.C KB (w.alloc (.cells #[.int .u8 x] 5 fr)) (some ⟨w.heap.size, 0, none⟩) [x].length [x] := by
  refine ⟨rfl, by simp, fun _ => ⟨_, rfl, fun j p hj => ?_⟩⟩
  match j, hj with
  | 0, hj =>
    injection hj with hj
    subst hj
    exact ⟨[.int .u8 x], rfl, rfl, fun i u hu => by
      match i, hu with
      | 0, hu =>
        injection hu with hu
        subst hu
        exact World.cell?_alloc_mark w #[.int .u8 x] 5 fr 0
      | i + 1, hu => simp at hu⟩
  | j + 1, hj => simp at hj
theorem net_bl {w0 w w' : World} {g base : Nat} {L0 L1 : List (List Int)} {S : Nat → Prop} (h : NetAt w g base L0 L1 S) (ho : OnlyS S w w') (hb : Below base w0 w) : Below base w0 w' := by
  obtain ⟨v0, v1, ok0, ok1, hh, h0, h1, hS, hbg, d0, d1, hl, s0, s1⟩ := h
  exact ho.to_below hb (fun k hk => (hl k hk).1) (by have := lt_at hh; omega)
theorem net_lt {w : World} {g base : Nat} {L0 L1 : List (List Int)} {S : Nat → Prop} (h : NetAt w g base L0 L1 S) : base ≤ g ∧ g < w.heap.size := by
  obtain ⟨v0, v1, ok0, ok1, hh, h0, h1, hS, hbg, d0, d1, hl, s0, s1⟩ := h
  exact ⟨hbg, lt_at hh⟩
set_option maxRecDepth 100000 in
theorem lives33 (w : World) : Calls Try.prog 36 #[] w fun e w' => e = .returned (.bool true) ∧ Below w.heap.size w w' := by
  have N := Lib.hid (New_c w)
  have e1 : putN 0 [97] [] [] = (0, [[97]], []) := by decide +kernel
  have e2 : putN 0 [98] [[97]] [] = (0, [[97], [98]], []) := by decide +kernel
  have e3 : takeN 0 0 [[97], [98]] [] = ((0, [97]), [[98]], []) := by decide +kernel
  have e4 : atN 0 0 [[97], [98]] [] = (0, [97]) := by decide +kernel
  have e5 : lenN 0 [[98]] [] = 1 := by decide +kernel
  have e6 : lenN 1 [[98]] [] = 0 := by decide +kernel
  have kc := fun (w : World) (C : Array Value) (n c : Nat) => Lib.run_convert_bytes_const (P := Try.prog) w 45 5 C n c Try.underlying45 Try.underlying5
  have P1 := Lib.hid (fun (g : Nat) (u : World) S (h : NetAt u g g [] [] S) A c (hr : Kd.C KB u A [97].length [97]) => Put_c g g 0 [] [] S A c [97] u h (by simp) hr)
  have P2 := Lib.hid (fun (g : Nat) (u : World) S (h : NetAt u g g [[97]] [] S) A c (hr : Kd.C KB u A [98].length [98]) => Put_c g g 0 [[97]] [] S A c [98] u h (by simp) hr)
  have T3 := Lib.hid (fun (g : Nat) (u : World) S (h : NetAt u g g [[97], [98]] [] S) => Take_c g g 0 0 [[97], [98]] [] S u h)
  have L5 := Lib.hid (fun (g : Nat) (u : World) S (h : NetAt u g g [[98]] [] S) => Len_c g g 0 [[98]] [] S u h)
  have L6 := Lib.hid (fun (g : Nat) (u : World) S (h : NetAt u g g [[98]] [] S) => Len_c g g 1 [[98]] [] S u h)
  rw [e1] at P1
  rw [e2] at P2
  rw [e3, e4] at T3
  rw [e5] at L5
  rw [e6] at L6
  clear e1 e2 e3 e4 e5 e6
  generalize hg : w.heap.size = g at N
  go_enter Try.func36, Try.ntmps36
  go_wp2_with fail
  refine N.out.mono ?_
  rintro e w1 ⟨rfl, hw1⟩
  have hn1 : NetAt w1 g g [] [] (fun k => k = g) := new_net w1 g (by rw [← hw1, ← hg]; exact new_at _ _)
  have HB1 : Hid (Below g w w1) := Lib.hid (by rw [← hw1, ← hg]; exact bl_all (Below.refl _ w) _)
  clear hw1 N
  go_wp2_with fail
  have hb2 : Below w1.heap.size w1 (w1.alloc (.cells #[.int .u8 97] 5 (1, 2))) := bl_all (Below.refl _ _) _
  have hn2 := net_below hn1 hb2
  refine (P1.out _ _ _ hn2 _ _ (box_C w1 97 (1, 2))).mono ?_
  rintro e w2 ⟨rfl, S2, hn3, hS2, ho2⟩
  have HN3 := Lib.hid hn3
  have HB3 := Lib.hid (net_bl hn2 ho2 (bl_to HB1.out hb2 (by have := net_lt hn1; omega)))
  clear hn3 hn2 hn1 ho2 hb2 HB1 hS2
  go_wp2_with fail
  have hb2 : Below w2.heap.size w2 (w2.alloc (.cells #[.int .u8 98] 5 (1, 2))) := bl_all (Below.refl _ _) _
  have hn2 := net_below HN3.out hb2
  refine (P2.out _ _ _ hn2 _ _ (box_C w2 98 (1, 2))).mono ?_
  rintro e w3 ⟨rfl, S3, hn4, hS3, ho3⟩
  have HN4 := Lib.hid hn4
  have HB4 := Lib.hid (net_bl hn2 ho3 (bl_to HB3.out hb2 (by have := net_lt HN3.out; omega)))
  clear hn4 hn2 ho3 hb2 HB3 HN3 hS3
  go_wp2_with fail
  refine (T3.out _ _ _ HN4.out).mono ?_
  rintro e w4 ⟨v, rfl, hr, S4, hn5, hS4, ho4⟩
  have HN5 := Lib.hid hn5
  have HB5 := Lib.hid (net_bl HN4.out ho4 HB4.out)
  obtain ⟨A4, c4, rfl, _, hC4⟩ := Kd.R_reads hr
  have hcv : (convert 45 9 (.slice A4 1 c4)).run Try.prog w4 = .ok (.string ⟨#[97]⟩) w4 := by
    have h := Kd.C_string (P := Try.prog) (A := A4) (c := c4) Try.underlying45 Try.underlying5 Try.underlying9 hC4
    rw [str_a] at h
    exact h
  clear hn5 ho4 hS4 HN4 HB4 hr hC4
  go_wp2_with fail
  refine (L5.out _ _ _ HN5.out).mono ?_
  rintro e w5 ⟨rfl, rfl⟩
  go_wp2_with fail
  refine (L6.out _ _ _ HN5.out).mono ?_
  rintro e w5 ⟨rfl, rfl⟩
  go_wp2_with fail
  go_ret
  exact ⟨rfl, HB5.out⟩
theorem none_walk (i0 i1 i2 : Int) (A : Option Addr) (n c : Nat) (w : World) : Calls Try.prog 10 #[.agg #[.int .i64 i0, .int .i64 i1, .int .i64 i2, .slice A n c]] w fun e w' => e = .returned (.bool true) ∧ Below w.heap.size w w' := by
  have LV := Lib.hid (lives33)
  have PP := Lib.hid Put_no
  have LL := Lib.hid Len_no
  have AA := Lib.hid At_no
  have TT := Lib.hid Take_no
  have DD := Lib.hid Double_no
  have hu := Try.underlying63
  go_enter Try.func10, Try.ntmps10
  go_wp2_with fail
  go_loopw [15] (fun i wr => ∃ (k : Nat), k ≤ 2 ∧ i = .int .i64 k ∧
      wr.heap[w.heap.size]? = some (.cells #[.int .i64 i0, .int .i64 i1, .int .i64 i2, .slice A n c] 63 (0, 0)) ∧ wr.heap[w.heap.size + 1]? = some (.cells #[.bool false, .slice none 0 0, .slice none 0 0] 77 (0, 0)) ∧ wr.heap[w.heap.size + 2]? = some (.cells #[.pointer none, .pointer (some ⟨w.heap.size + 1, 0, none⟩)] 55 (0, 0)) ∧ Below w.heap.size w wr)
    (fun i _ => 2 - (intOf i).toNat)
  case atStart =>
    exact ⟨0, Nat.zero_le _, rfl, old_at (old_at (new_at _ _) _) _, old_at (new_at1 _ _ _) _, new_at2 _ _ _ _, bl_all (bl_all (bl_all (Below.refl _ w) _) _) _⟩
  case round =>
    obtain ⟨k, hk, rfl, ha, hb, hb2, hB⟩ := hrel
    have HA := Lib.hid ha
    have HB := Lib.hid hb
    have HB2 := Lib.hid hb2
    have HBB := Lib.hid hB
    have c1 : wr.cell? ⟨w.heap.size, 1, none⟩ = some (.int .i64 i1) := blk_cell ha 1
    have c2 : wr.cell? ⟨w.heap.size, 2, none⟩ = some (.int .i64 i2) := blk_cell ha 2
    have c3 : wr.cell? ⟨w.heap.size, 3, none⟩ = some (.slice A n c) := blk_cell ha 3
    clear ha hb hb2 hB
    by_cases hlt : k < 2
    · have hlt' : (k : Int) < 2 := by omega
      obtain ⟨v, hv, hn⟩ : ∃ v, wr.cell? ⟨w.heap.size + 2, k, none⟩ = some v ∧ NoAt wr v := by
        rcases (show k = 0 ∨ k = 1 by omega) with rfl | rfl
        · exact ⟨_, blk_cell HB2.out 0, Or.inl rfl⟩
        · exact ⟨_, blk_cell HB2.out 1, Or.inr ⟨_, rfl, blk_cell HB.out 0⟩⟩
      have HN := Lib.hid hn
      clear hn
      go_wp2_with fail
      refine (TT.out _ _ _ _ HN.out).mono ?_
      rintro e w' ⟨rfl, rfl⟩
      go_wp2_with fail
      refine (AA.out _ _ _ _ HN.out).mono ?_
      rintro e w' ⟨rfl, rfl⟩
      go_wp2_with fail
      refine (PP.out _ _ _ _ _ _ HN.out).mono ?_
      rintro e w' ⟨rfl, rfl⟩
      go_wp2_with fail
      refine (DD.out _ _ _ _ HN.out).mono ?_
      rintro e w' ⟨rfl, rfl⟩
      go_wp2_with fail
      refine (LL.out _ _ _ HN.out).mono ?_
      rintro e w' ⟨rfl, rfl⟩
      go_wp2_with fail
      go_roundw
      case rel => exact ⟨k + 1, by omega, by go_num, HA.out, HB.out, HB2.out, HBB.out⟩
      case measure => simp [intOf]; omega
    · have hlt' : ¬ (k : Int) < 2 := by omega
      go_wp2_with fail
      refine (LV.out _).mono ?_
      rintro e w' ⟨rfl, hb3⟩
      go_wp2_with fail
      go_ret
      exact ⟨rfl, bl_then HBB.out hb3⟩
end Go.Proofs.Ytajpnohhahffbaa.NetW
