/-
  Dice: DiceNone.
-/
import Derived.Test.YtoobbolaoldacaaDiceH
namespace Go.Proofs.Ytoobbolaoldacaa.DiceW
open Go.RowKit Go.Proofs.Ytoobbolaoldacaa Go.Proofs.Ytoobbolaoldacaa.Dice Go.Proofs.Ytoobbolaoldacaa.DiceP Go.Proofs.Ytoobbolaoldacaa.RowOwn Go.Proofs.YtoobbolaoldacaaW.PrintWords Go.Proofs.YtoobbolaoldacaaW.PrintLast Go.Proofs.YtoobbolaoldacaaW.PrintMore
set_option linter.unusedVariables false
/-- dice that no call made -/
def NoD (p : Option Addr) (w : World) : Prop := p = none ∨ ∃ g, p = some ⟨g, 0, none⟩ ∧ DAt 113 w g 0
theorem nod_below {p : Option Addr} {w w1 : World} (h : NoD p w) (hb : Below w.heap.size w w1) : NoD p w1 := by
  rcases h with h | ⟨g, h, hd⟩
  · exact .inl h
  · exact .inr ⟨g, h, d_below hd hb⟩
theorem is_no (p : Option Addr) (w : World) (h : NoD p w) : Calls Try.prog 83 #[.pointer p] w fun e w' => e = .returned (.bool false) ∧ w = w' := by
  rcases h with rfl | ⟨g, rfl, hd⟩
  · exact is_nil w
  · exact is_none g w hd
theorem next_no (p : Option Addr) (w : World) (h : NoD p w) : Calls Try.prog 45 #[.pointer p] w fun e w' => e = .returned (.int .u64 0) ∧ w = w' := by
  rcases h with rfl | ⟨g, rfl, hd⟩
  · exact next_nil w
  · exact next_none g w hd
theorem below_no (p : Option Addr) (n : Int) (w : World) (h : NoD p w) : Calls Try.prog 43 #[.pointer p, .int .i64 n] w fun e w' => e = .returned (.int .i64 0) ∧ w = w' := by
  rcases h with rfl | ⟨g, rfl, hd⟩
  · exact below_nil n w
  · exact below_none g n w hd
abbrev Z8 : Array Value := #[.int .i64 0, .int .i64 0, .int .i64 0, .int .u64 0, .int .i64 0, .int .i64 0, .int .i64 0, .slice none 0 0]
abbrev Z4 : Array Value := #[.int .i64 0, .int .i64 0, .int .i64 0, .slice none 0 0]
theorem set4 {W : World} {b t : Nat} {u0 u1 u2 u3 v0 v1 v2 v3 : Value} (h : W.heap[b]? = some (.cells #[u0, u1, u2, u3] t (0, 0))) : ((((W.setCell ⟨b, 0, none⟩ v0).setCell ⟨b, 1, none⟩ v1).setCell ⟨b, 2, none⟩ v2).setCell ⟨b, 3, none⟩ v3).heap[b]? = some (.cells #[v0, v1, v2, v3] t (0, 0)) := by
  have h1 : (W.setCell ⟨b, 0, none⟩ v0).heap[b]? = some (.cells #[v0, u1, u2, u3] t (0, 0)) := set_at h 0 v0
  have h2 : ((W.setCell ⟨b, 0, none⟩ v0).setCell ⟨b, 1, none⟩ v1).heap[b]? = some (.cells #[v0, v1, u2, u3] t (0, 0)) := set_at h1 1 v1
  have h3 : (((W.setCell ⟨b, 0, none⟩ v0).setCell ⟨b, 1, none⟩ v1).setCell ⟨b, 2, none⟩ v2).heap[b]? = some (.cells #[v0, v1, v2, u3] t (0, 0)) := set_at h2 2 v2
  exact set_at h3 3 v3
theorem only4 (W : World) (b : Nat) (v0 v1 v2 v3 : Value) : OnlyS (· = b) W ((((W.setCell ⟨b, 0, none⟩ v0).setCell ⟨b, 1, none⟩ v1).setCell ⟨b, 2, none⟩ v2).setCell ⟨b, 3, none⟩ v3) := by
  refine OnlyS.set (OnlyS.set (OnlyS.set (OnlyS.set (OnlyS.refl _ W) _ _ (.inl ?_)) _ _ (.inl ?_)) _ _ (.inl ?_)) _ _ (.inl ?_) <;> rfl
set_option maxRecDepth 20000 in
theorem request_no (p : Option Addr) (c0 c1 c2 c3 c4 : Int) (w : World) (h : NoD p w) :
    Calls Try.prog 48 #[.pointer p, Cf c0 c1 c2 c3 c4] w fun e w' => e = .returned (.agg Z4) ∧ Below w.heap.size w w' := by
  have hb : Below w.heap.size w ((w.alloc (.cells #[.int .i64 c0, .int .i64 c1, .int .i64 c2, .int .i64 c3, .int .i64 c4] 92)).alloc (.cells Z4 103)) := bl_all (bl_all (Below.refl _ _) _) _
  have IS := Lib.hid (is_no p _ (nod_below h hb))
  have hz := new_at1 w (.cells #[.int .i64 c0, .int .i64 c1, .int .i64 c2, .int .i64 c3, .int .i64 c4] 92) (.cells Z4 103)
  have HB := Lib.hid hb
  clear h hb
  go_enter Try.func48, Try.ntmps48
  go_upto_region 1 with (fail)
  generalize (w.alloc (.cells #[.int .i64 c0, .int .i64 c1, .int .i64 c2, .int .i64 c3, .int .i64 c4] 92)).alloc (.cells Z4 103) = W at hz IS HB ⊢
  have hf0 := blk_frozen hz 0
  have hf1 := blk_frozen hz 1
  have hf2 := blk_frozen hz 2
  have hf3 := blk_frozen hz 3
  have hk0 := blk_cell hz 0
  have hk1 := blk_cell hz 1
  have hk2 := blk_cell hz 2
  have hk3 := blk_cell hz 3
  have HZ := Lib.hid hz
  clear hz
  go_wp2_with (go_at_call 83; refine IS.out.mono ?_; rintro e w' ⟨rfl, rfl⟩)
  refine bodyPost_ret (results_cell_row rfl _ _ (w.heap.size + 1) 103 Z4 (0, 0) _ rfl (set4 HZ.out) Try.underlying103 rfl (by kernel_rfl)) rfl ?_
  exact ⟨rfl, (only4 _ _ _ _ _ _).to_below HB.out (fun k hk => by omega) HB.out.size⟩
set_option maxRecDepth 20000 in
theorem act_no (p : Option Addr) (c0 c1 c2 c3 c4 a0 a1 a2 a3 a4 a5 a6 a7 : Int) (w : World) (h : NoD p w) :
    Calls Try.prog 51 #[.pointer p, Cf c0 c1 c2 c3 c4, W8 a0 a1 a2 a3 a4 a5 a6 a7] w fun e w' => e = .returned (.agg Z8) ∧ Below w.heap.size w w' := by
  have hb : Below w.heap.size w (((w.alloc (.cells #[.int .i64 c0, .int .i64 c1, .int .i64 c2, .int .i64 c3, .int .i64 c4] 92)).alloc (.cells #[.int .i64 a0, .int .i64 a1, .int .i64 a2, .int .i64 a3, .int .i64 a4, .int .i64 a5, .int .i64 a6, .int .i64 a7] 110)).alloc (.cells Z8 106)) := bl_all (bl_all (bl_all (Below.refl _ _) _) _) _
  have hn := nod_below h hb
  have hz := new_at2 w (.cells #[.int .i64 c0, .int .i64 c1, .int .i64 c2, .int .i64 c3, .int .i64 c4] 92) (.cells #[.int .i64 a0, .int .i64 a1, .int .i64 a2, .int .i64 a3, .int .i64 a4, .int .i64 a5, .int .i64 a6, .int .i64 a7] 110) (.cells Z8 106)
  have hy : (((w.alloc (.cells #[.int .i64 c0, .int .i64 c1, .int .i64 c2, .int .i64 c3, .int .i64 c4] 92)).alloc (.cells #[.int .i64 a0, .int .i64 a1, .int .i64 a2, .int .i64 a3, .int .i64 a4, .int .i64 a5, .int .i64 a6, .int .i64 a7] 110)).alloc (.cells Z8 106)).heap[w.heap.size + 1]? = some (.cells #[.int .i64 a0, .int .i64 a1, .int .i64 a2, .int .i64 a3, .int .i64 a4, .int .i64 a5, .int .i64 a6, .int .i64 a7] 110 (0, 0)) := old_at (new_at1 w _ _) _
  have HB := Lib.hid hb
  have SM := Lib.hid (fun w => sum_walk a0 a1 a2 a3 a4 a5 a6 a7 w)
  clear h hb
  go_enter Try.func51, Try.ntmps51
  go_upto_region 1 with (fail)
  generalize ((w.alloc (.cells #[.int .i64 c0, .int .i64 c1, .int .i64 c2, .int .i64 c3, .int .i64 c4] 92)).alloc (.cells #[.int .i64 a0, .int .i64 a1, .int .i64 a2, .int .i64 a3, .int .i64 a4, .int .i64 a5, .int .i64 a6, .int .i64 a7] 110)).alloc (.cells Z8 106) = W at hz hn hy HB ⊢
  obtain ⟨e0, e1, e2, e3, e4, e5, e6, e7⟩ := cl8 hy
  have HZ := Lib.hid hz
  have HN := Lib.hid hn
  clear hz hn hy
  go_wp2_with (first
    | (go_at_call 87; refine (SM.out _).mono ?_; rintro e w1 ⟨rfl, hb1⟩; have IS := Lib.hid (is_no p _ (nod_below HN.out hb1)); have hz1 := keep_at_all HZ.out hb1; have HZ1 := Lib.hid hz1; have HB1 := Lib.hid (bl_then HB.out hb1); clear e0 e1 e2 e3 e4 e5 e6 e7; obtain ⟨m0, m1, m2, m3, m4, m5, m6, m7⟩ := fz8 hz1; obtain ⟨k0, k1, k2, k3, k4, k5, k6, k7⟩ := cl8 hz1; clear hz1 hb1)
    | (go_at_call 83; refine IS.out.mono ?_; rintro e w' ⟨rfl, rfl⟩))
  refine bodyPost_ret (results_cell_row rfl _ _ (w.heap.size + 2) 106 Z8 (0, 0) _ rfl (set8 HZ1.out) Try.underlying106 rfl (by kernel_rfl)) rfl ?_
  exact ⟨rfl, (only8 _ _ _ _ _ _ _ _ _ _).to_below HB1.out (fun k hk => by omega) HB1.out.size⟩
end Go.Proofs.Ytoobbolaoldacaa.DiceW
