/-
  The example that each statement of layer 25 plays, and a queue that no call made.
-/
import Derived.Test.YtoobbolaoldacaaLaterR
import Derived.Test.YtoobbolaoldacaaLaterV
import Derived.Lib.SlBytesConst
namespace Go.Proofs.Ytoobbolaoldacaa.LaterW
open Go.RowKit Go.Proofs.Ytoobbolaoldacaa Go.Proofs.Ytoobbolaoldacaa.Later Go.Proofs.Ytoobbolaoldacaa.LaterSP Go.Proofs.Ytoobbolaoldacaa.LaterP Go.Proofs.Ytoobbolaoldacaa.RowOwn Go.Proofs.Ytoobbolaoldacaa.CloneB Go.Proofs.YtoobbolaoldacaaW.PrintWords Go.Proofs.YtoobbolaoldacaaW.PrintLast Go.Proofs.YtoobbolaoldacaaW.PrintMore
set_option linter.unusedVariables false
theorem box_C (w : World) (x : Int) (fr : Nat × Nat) : Kd.C KB (w.alloc (.cells #[.int .u8 x] 5 fr)) (some ⟨w.heap.size, 0, none⟩) [x].length [x] := by
  refine ⟨rfl, by simp, fun _ => ⟨_, rfl, fun j p hj => ?_⟩⟩
  match j, hj with
  | 0, hj =>
    injection hj with hj
    subst hj
    exact ⟨[.int .u8 x], rfl, rfl, fun i u hu => by
      match i, hu with
      | 0, hu =>
        injection hu with hu
        subst hu
        exact World.cell?_alloc_mark w #[.int .u8 x] 5 fr 0
      | i + 1, hu => simp at hu⟩
  | j + 1, hj => simp at hj
theorem str_b : strOfNums [98] = ⟨#[98]⟩ := by decide +kernel
/-- one own write, boxed -/
theorem own_C (w : World) (o l : Int) (s : Bool) : Kd.C k38 (w.alloc (.cells #[.int .i64 o, .int .i64 l, .bool s] 38)) (some ⟨w.heap.size, 0, none⟩) [(⟨⟨o, l⟩, s⟩ : S38)].length [⟨⟨o, l⟩, s⟩] := by
  have hn := new_at w (.cells #[.int .i64 o, .int .i64 l, .bool s] 38)
  refine ⟨rfl, by simp, fun _ => ⟨_, rfl, fun j p hj => ?_⟩⟩
  match j, hj with
  | 0, hj =>
    injection hj with hj
    subst hj
    refine ⟨[.int .i64 o, .int .i64 l, .bool s], rfl, k38_mk _ ⟨⟨o, l⟩, s⟩, fun i u hu => ?_⟩
    match i, hu with
    | 0, hu => injection hu with hu; subst hu; exact blk_cell hn 0
    | 1, hu => injection hu with hu; subst hu; exact blk_cell hn 1
    | 2, hu => injection hu with hu; subst hu; exact blk_cell hn 2
    | i + 3, hu => simp at hu
  | j + 1, hj => simp at hj
theorem nil_C {α : Type} (d : Kd α) (w : World) : Kd.C d w none ([] : List α).length [] := ⟨rfl, by simp, fun h => absurd h (by simp)⟩
theorem new_q (w : World) (g : Nat) (h : w.heap[g]? = some (.cells #[.bool true, .slice none 0 0] 73 (0, 0))) : QAt w g g [] (fun k => k = g) := rw_new w g h
theorem new_rq (w : World) (g : Nat) (h : w.heap[g]? = some (.cells #[.slice none 0 0] 60 (0, 0))) : RQAt w g g [] (fun k => k = g) := rw_new w g h
set_option maxRecDepth 100000 in
set_option maxHeartbeats 2000000 in
theorem lives25 (w : World) : Calls Try.prog 13 #[] w fun e w' => e = .returned (.bool true) ∧ Below w.heap.size w w' := by
  have N := Lib.hid (New_c w)
  have kc := fun (w : World) (C : Array Value) (n c : Nat) => Lib.run_convert_bytes_const (P := Try.prog) w 28 5 C n c Try.underlying28 Try.underlying5
  have P1 := Lib.hid (fun (g : Nat) (u : World) S (h : QAt u g g [] S) (hr : Kd.C KB u none 0 []) => Push_c g g [] S ⟨1, 0, 2, []⟩ none 0 u h (by simp) (by simp) hr)
  have P2 := Lib.hid (fun (g : Nat) (u : World) S (h : QAt u g g [⟨1, 0, 2, []⟩] S) A c (hr : Kd.C KB u A 1 [98]) => Push_c g g [⟨1, 0, 2, []⟩] S ⟨2, 4, 2, [98]⟩ A c u h (by simp) (by simp) hr)
  have e1 : nextN [⟨⟨1, 1⟩, true⟩] [⟨1, 0, 2, []⟩, ⟨2, 4, 2, [98]⟩] = some 1 := by decide +kernel
  have e2 : pickN [⟨⟨1, 1⟩, true⟩] [⟨1, 0, 2, []⟩, ⟨2, 4, 2, [98]⟩] = ⟨2, 4, 2, [98]⟩ := by unfold pickN; rw [e1]; rfl
  have e3 : leftN [⟨⟨1, 1⟩, true⟩] [⟨1, 0, 2, []⟩, ⟨2, 4, 2, [98]⟩] = [⟨1, 0, 2, []⟩] := by unfold leftN; rw [e1]; rfl
  have X3 := Lib.hid (fun (g : Nat) (u : World) S (h : QAt u g g [⟨1, 0, 2, []⟩, ⟨2, 4, 2, [98]⟩] S) A c (hr : Kd.C k38 u A 1 [⟨⟨1, 1⟩, true⟩]) (hc : 1 ≤ c) => Next_c g g [⟨1, 0, 2, []⟩, ⟨2, 4, 2, [98]⟩] S [⟨⟨1, 1⟩, true⟩] A c u h hr hc)
  rw [e2, e3, e1] at X3
  have L4 := Lib.hid (fun (g : Nat) (u : World) S (h : QAt u g g [⟨1, 0, 2, []⟩] S) => Len_c g g [⟨1, 0, 2, []⟩] S u h)
  clear e1 e2 e3
  generalize hg : w.heap.size = g at N
  go_enter Try.func13, Try.ntmps13
  go_wp2_with fail
  refine N.out.mono ?_
  rintro e w1 ⟨rfl, hw1⟩
  have hn1 : QAt w1 g g [] (fun k => k = g) := new_q w1 g (by rw [← hw1, ← hg]; exact new_at _ _)
  have HN1 := Lib.hid hn1
  have HB1 : Hid (Below g w w1) := Lib.hid (by rw [← hw1, ← hg]; exact bl_all (Below.refl _ w) _)
  clear hw1 N hn1
  go_wp2_with fail
  refine (P1.out _ _ _ HN1.out (nil_C _ _)).mono ?_
  rintro e w2 ⟨rfl, S2, hn2, _, ho2⟩
  have HN2 := Lib.hid hn2
  have HB2 := Lib.hid (rw_bl HN1.out ho2 HB1.out)
  clear hn2 ho2 HN1 HB1
  go_wp2_with fail
  have hb2 : Below w2.heap.size w2 (w2.alloc (.cells #[.int .u8 98] 5 (1, 2))) := bl_all (Below.refl _ _) _
  refine (P2.out _ _ _ (rw_below HN2.out hb2) _ _ (box_C w2 98 (1, 2))).mono ?_
  rintro e w3 ⟨rfl, S3, hn3, _, ho3⟩
  have HN3 : Hid (QAt w3 g g [⟨1, 0, 2, []⟩, ⟨2, 4, 2, [98]⟩] S3) := Lib.hid hn3
  have HB3 := Lib.hid (rw_bl (rw_below HN2.out hb2) ho3 (bl_to HB2.out hb2 (by have := rw_lt HN2.out; omega)))
  clear hn3 ho3 hb2 HN2 HB2
  go_wp2_with fail
  have hb3 : Below w3.heap.size w3 (w3.alloc (.cells #[.int .i64 1, .int .i64 1, .bool true] 38)) := bl_all (Below.refl _ _) _
  refine (X3.out _ _ _ (rw_below HN3.out hb3) _ _ (own_C w3 1 1 true) (Nat.le_refl _)).mono ?_
  rintro e w4 ⟨v, rfl, hr, S4, hn4, _, ho4⟩
  have HN4 := Lib.hid hn4
  have HB4 := Lib.hid (rw_bl (rw_below HN3.out hb3) ho4 (bl_to HB3.out hb3 (by have := rw_lt HN3.out; omega)))
  obtain ⟨A4, c4, rfl, _, hC4⟩ := Kd.R_reads hr
  have hsg := (rw_lt hn4).2.1
  have hCn : ∀ o, Kd.C KB (w4.alloc o) A4 1 [98] := fun o => Kd.C_below hC4 (bl_all (Below.refl _ _) o)
  have hcv : ∀ o, (convert 28 9 (.slice A4 1 c4)).run Try.prog (w4.alloc o) = .ok (.string ⟨#[98]⟩) (w4.alloc o) := fun o => by
    have h := Kd.C_string (P := Try.prog) (A := A4) (c := c4) Try.underlying28 Try.underlying5 Try.underlying9 (hCn o)
    rw [str_b] at h
    exact h
  have LL := Lib.hid (fun o => L4.out g _ _ (rw_below HN4.out (bl_all (Below.refl _ w4) o)))
  clear hn4 ho4 hr hC4 hCn hb3
  go_wp2_with fail
  refine (LL.out _).mono ?_
  rintro e w5 ⟨rfl, rfl⟩
  go_wp2_with fail
  go_ret
  exact ⟨rfl, bl_to HB4.out (bl_all (Below.refl _ _) _) (by omega)⟩
/-- a queue that no call made: nil, or a zero one -/
def NoAt (w : World) (v : Value) : Prop := v = .pointer none ∨ ∃ g, v = .pointer (some ⟨g, 0, none⟩) ∧ w.cell? ⟨g, 0, none⟩ = some (.bool false) ∧ g < w.heap.size
theorem no_bl {w w' : World} {v : Value} (h : NoAt w v) (hb : Below w.heap.size w w') : NoAt w' v := by
  rcases h with h | ⟨g, h, h1, h2⟩
  · exact .inl h
  · exact .inr ⟨g, h, (hb.cell (p := ⟨g, 0, none⟩) h2).trans h1, Nat.lt_of_lt_of_le h2 hb.size⟩
theorem is_no (v : Value) (w : World) (h : NoAt w v) : Calls Try.prog 61 #[v] w fun e w' => e = .returned (.bool false) ∧ w = w' := by
  rcases h with rfl | ⟨g, rfl, h, _⟩
  · exact is_nil w
  · exact is_c g false w h
theorem Len_no (v : Value) (w : World) (h : NoAt w v) : Calls Try.prog 17 #[v] w fun e w' => e = .returned (.int .i64 0) ∧ w = w' := by
  have D := Lib.hid (is_no v w h)
  clear h
  go_enter Try.func17, Try.ntmps17
  go_wp2_with fail
  refine D.out.mono ?_
  rintro e w' ⟨rfl, rfl⟩
  go_wp2_with fail
  go_ret
  exact ⟨rfl, rfl⟩
theorem Spans_no (v : Value) (w : World) (h : NoAt w v) : Calls Try.prog 31 #[v] w fun e w' => e = .returned (.slice none 0 0) ∧ w = w' := by
  have D := Lib.hid (is_no v w h)
  clear h
  go_enter Try.func31, Try.ntmps31
  go_wp2_with fail
  refine D.out.mono ?_
  rintro e w' ⟨rfl, rfl⟩
  go_wp2_with fail
  go_ret
  exact ⟨rfl, rfl⟩
theorem Push_no (v : Value) (id o l : Int) (A : Option Addr) (n c : Nat) (w : World) (h : NoAt w v) : Calls Try.prog 15 #[v, .int .i64 id, .agg #[.int .i64 o, .int .i64 l], .slice A n c] w fun e w' => e = .returned (.bool false) ∧ Below w.heap.size w w' := by
  have D := Lib.hid (fun ob => is_no v (w.alloc ob) (no_bl h (bl_all (Below.refl _ _) ob)))
  clear h
  go_enter Try.func15, Try.ntmps15
  go_wp2_with fail
  refine (D.out _).mono ?_
  rintro e w' ⟨rfl, rfl⟩
  go_wp2_with fail
  go_ret
  exact ⟨rfl, bl_all (Below.refl _ _) _⟩
theorem Over_no (v : Value) (o l : Int) (w : World) (h : NoAt w v) : Calls Try.prog 28 #[v, .agg #[.int .i64 o, .int .i64 l]] w fun e w' => e = .returned (.bool false) ∧ Below w.heap.size w w' := by
  have D := Lib.hid (fun ob => Spans_no v (w.alloc ob) (no_bl h (bl_all (Below.refl _ _) ob)))
  have hbox := new_at w (.cells #[.int .i64 o, .int .i64 l] 27)
  have CT := Lib.hid (contains74 w.heap.size o l none 0 [] (w.alloc (.cells #[.int .i64 o, .int .i64 l] 27)) (nil_C _ _) (by simp) (blk_cell hbox 0) (blk_cell hbox 1) (lt_at hbox))
  have hmf : ∀ (fn : Fn) (first cap : Array Value) (w : World), (Instr.makeFunc fn first cap).run Try.prog w = .ok (.func fn first cap) w := fun _ _ _ _ => rfl
  clear h hbox
  go_enter Try.func28, Try.ntmps28
  go_wp2_with fail
  refine (D.out _).mono ?_
  rintro e w' ⟨rfl, rfl⟩
  go_wp2_with fail
  refine CT.out.mono ?_
  rintro e w2 ⟨rfl, hb2⟩
  go_wp2_with fail
  go_ret
  exact ⟨rfl, bl_to (bl_all (Below.refl _ _) _) hb2 (by simp)⟩
theorem Next_no (v : Value) (A : Option Addr) (n c : Nat) (w : World) (h : NoAt w v) : Calls Try.prog 16 #[v, .slice A n c] w fun e w' => e = .returned (.tuple #[.agg #[.int .i64 0, .int .i64 0, .int .i64 0, .slice none 0 0], .bool false]) ∧ Below w.heap.size w w' := by
  have D := Lib.hid (fun a b c => is_no v (((w.alloc a).alloc b).alloc c) (no_bl h (bl_all (bl_all (bl_all (Below.refl _ _) a) b) c)))
  have hv : ∃ p, v = .pointer p := by
    rcases h with rfl | ⟨g, rfl, _⟩
    · exact ⟨_, rfl⟩
    · exact ⟨_, rfl⟩
  obtain ⟨p, rfl⟩ := hv
  clear h
  go_enter Try.func16, Try.ntmps16
  go_wp2_with fail
  refine (D.out _ _ _).mono ?_
  rintro e w' ⟨rfl, rfl⟩
  go_wp2_with fail
  refine bodyPost_ret (v := .tuple #[.agg #[.int .i64 0, .int .i64 0, .int .i64 0, .slice none 0 0], .bool false]) (by simp [results, Try.results16, go_sem]) rfl ⟨rfl, ?_⟩
  exact bl_all (bl_all (bl_all (Below.refl _ _) _) _) _
set_option maxHeartbeats 4000000 in
set_option maxRecDepth 100000 in
theorem none_walk (b0 : Bool) (i1 i2 i3 : Int) (A4 : Option Addr) (n4 c4 : Nat) (A5 : Option Addr) (n5 c5 : Nat) (w : World) : Calls Try.prog 6 #[.agg #[.bool b0, .int .i64 i1, .int .i64 i2, .int .i64 i3, .slice A4 n4 c4, .slice A5 n5 c5]] w fun e w' => e = .returned (.bool true) ∧ Below w.heap.size w w' := by
  have LV := Lib.hid (lives25)
  have NX := Lib.hid (fun v w h => Next_no v none 0 0 w h)
  have PS := Lib.hid (fun v w h => Push_no v i1 i2 i3 A4 n4 c4 w h)
  have OV := Lib.hid (fun v w h => Over_no v i2 i3 w h)
  have LN := Lib.hid Len_no
  have SP := Lib.hid Spans_no
  have hu := Try.underlying31
  go_enter Try.func6, Try.ntmps6
  go_wp2_with fail
  go_loopw [13] (fun i wr => ∃ (k : Nat), k ≤ 2 ∧ i = .int .i64 k ∧
      wr.heap[w.heap.size]? = some (.cells #[.bool b0, .int .i64 i1, .int .i64 i2, .int .i64 i3, .slice A4 n4 c4, .slice A5 n5 c5] 31 (0, 0)) ∧ wr.heap[w.heap.size + 1]? = some (.cells #[.bool false, .slice none 0 0] 73 (0, 0)) ∧ wr.heap[w.heap.size + 2]? = some (.cells #[.pointer none, .pointer (some ⟨w.heap.size + 1, 0, none⟩)] 24 (0, 0)) ∧ Below w.heap.size w wr)
    (fun i _ => 2 - (intOf i).toNat)
  case atStart =>
    exact ⟨0, Nat.zero_le _, rfl, old_at (old_at (new_at _ _) _) _, old_at (new_at1 _ _ _) _, new_at2 _ _ _ _, bl_all (bl_all (bl_all (Below.refl _ w) _) _) _⟩
  case round =>
    obtain ⟨k, hk, rfl, ha, hb, hb2, hB⟩ := hrel
    have HA := Lib.hid ha
    have HB := Lib.hid hb
    have HB2 := Lib.hid hb2
    have HBB := Lib.hid hB
    have hsz := lt_at hb2
    clear ha hb hb2 hB
    by_cases hlt : k < 2
    · have hlt' : (k : Int) < 2 := by omega
      obtain ⟨v, hv, hn⟩ : ∃ v, wr.cell? ⟨w.heap.size + 2, k, none⟩ = some v ∧ NoAt wr v := by
        rcases (show k = 0 ∨ k = 1 by omega) with rfl | rfl
        · exact ⟨_, blk_cell HB2.out 0, Or.inl rfl⟩
        · exact ⟨_, blk_cell HB2.out 1, Or.inr ⟨_, rfl, blk_cell HB.out 0, lt_at HB.out⟩⟩
      have HN := Lib.hid hn
      clear hn
      go_wp2_with fail
      refine (NX.out _ _ HN.out).mono ?_
      rintro e w1 ⟨rfl, hb1⟩
      have HA1 := Lib.hid (keep_at_all HA.out hb1)
      have HBx := Lib.hid (keep_at_all HB.out hb1)
      have HB2x := Lib.hid (keep_at_all HB2.out hb1)
      have HN1 := Lib.hid (no_bl HN.out hb1)
      have HBBx := Lib.hid (bl_to HBB.out hb1 (by omega))
      have hs1 := hb1.size
      have hszw := lt_at (keep_at_all HB2.out hb1)
      have qa : ∀ o, (w1.alloc o).heap[w.heap.size]? = some (.cells #[.bool b0, .int .i64 i1, .int .i64 i2, .int .i64 i3, .slice A4 n4 c4, .slice A5 n5 c5] 31 (0, 0)) := fun o => old_at HA1.out o
      have p1 : ∀ o, (w1.alloc o).cell? ⟨w.heap.size, 1, none⟩ = some (.int .i64 i1) := fun o => blk_cell (qa o) 1
      have p2 : ∀ o, (w1.alloc o).cell? ⟨w.heap.size, 2, none⟩ = some (.int .i64 i2) := fun o => blk_cell (qa o) 2
      have p3 : ∀ o, (w1.alloc o).cell? ⟨w.heap.size, 3, none⟩ = some (.int .i64 i3) := fun o => blk_cell (qa o) 3
      have p4 : ∀ o, (w1.alloc o).cell? ⟨w.heap.size, 4, none⟩ = some (.slice A4 n4 c4) := fun o => blk_cell (qa o) 4
      have HNA := Lib.hid (fun o => no_bl HN1.out (bl_all (Below.refl w1.heap.size w1) o))
      clear hb1 HA HB HB2 HBB HN qa
      go_wp2_with fail
      refine (PS.out _ _ (HNA.out _)).mono ?_
      rintro e w2 ⟨rfl, hb2⟩
      have hs2 := hb2.size
      rw [World.size_alloc] at hs2
      have hbl2 : Below w1.heap.size w1 w2 := bl_to (bl_all (Below.refl _ _) _) hb2 (by simp)
      have HA2 := Lib.hid (keep_at_all HA1.out hbl2)
      have HN2 := Lib.hid (no_bl HN1.out hbl2)
      have HB2y := Lib.hid (keep_at_all HBx.out hbl2)
      have HB22 := Lib.hid (keep_at_all HB2x.out hbl2)
      have HBB2 := Lib.hid (bl_to HBBx.out hbl2 (by omega))
      have r2 : w2.cell? ⟨w.heap.size, 2, none⟩ = some (.int .i64 i2) := blk_cell HA2.out 2
      have r3 : w2.cell? ⟨w.heap.size, 3, none⟩ = some (.int .i64 i3) := blk_cell HA2.out 3
      clear p1 p2 p3 p4 hb2 hbl2 HNA HA1 HBx HB2x HBBx HN1
      go_wp2_with fail
      refine (OV.out _ _ HN2.out).mono ?_
      rintro e w3 ⟨rfl, hb3⟩
      have hs3 := hb3.size
      have HA3 := Lib.hid (keep_at_all HA2.out hb3)
      have HN3 := Lib.hid (no_bl HN2.out hb3)
      have HB3y := Lib.hid (keep_at_all HB2y.out hb3)
      have HB32 := Lib.hid (keep_at_all HB22.out hb3)
      have HBB3 := Lib.hid (bl_to HBB2.out hb3 (by omega))
      clear r2 r3 hb3 HA2 HN2 HB2y HB22 HBB2
      go_wp2_with fail
      refine (LN.out _ _ HN3.out).mono ?_
      rintro e w' ⟨rfl, rfl⟩
      go_wp2_with fail
      refine (SP.out _ _ HN3.out).mono ?_
      rintro e w' ⟨rfl, rfl⟩
      go_wp2_with fail
      exact ⟨⟨k + 1, by omega, by go_num, HA3.out, HB3y.out, HB32.out, HBB3.out⟩, by simp [intOf]; omega⟩
    · have hlt' : ¬ (k : Int) < 2 := by omega
      go_wp2_with fail
      refine (LV.out _).mono ?_
      rintro e w' ⟨rfl, hb3⟩
      go_wp2_with fail
      go_ret
      exact ⟨rfl, bl_to HBB.out hb3 (by omega)⟩
end Go.Proofs.Ytoobbolaoldacaa.LaterW
