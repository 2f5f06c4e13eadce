/-
  Dice: a request, the program's (printed by tools/mkdicer.py).
-/
import Derived.Test.YtoobbolaoldacaaDiceC
import Derived.Test.YtoobbolaoldacaaDiceN
namespace Go.Proofs.Ytoobbolaoldacaa.DiceW
open Go.RowKit Go.Proofs.Ytoobbolaoldacaa Go.Proofs.Ytoobbolaoldacaa.Dice Go.Proofs.Ytoobbolaoldacaa.DiceP Go.Proofs.Ytoobbolaoldacaa.RowOwn Go.Proofs.YtoobbolaoldacaaW.PrintWords Go.Proofs.YtoobbolaoldacaaW.PrintLast Go.Proofs.YtoobbolaoldacaaW.PrintMore
set_option linter.unusedVariables false
theorem cl4 {W : World} {b t : Nat} {u0 u1 u2 u3 : Value} (h : W.heap[b]? = some (.cells #[u0, u1, u2, u3] t (0, 0))) : W.cell? ⟨b, 0, none⟩ = some u0 ∧ W.cell? ⟨b, 1, none⟩ = some u1 ∧ W.cell? ⟨b, 2, none⟩ = some u2 ∧ W.cell? ⟨b, 3, none⟩ = some u3 := ⟨blk_cell h 0, blk_cell h 1, blk_cell h 2, blk_cell h 3⟩
theorem fz4 {W : World} {b t : Nat} {cs : Array Value} (h : W.heap[b]? = some (.cells cs t (0, 0))) : W.frozen? ⟨b, 0, none⟩ = false ∧ W.frozen? ⟨b, 1, none⟩ = false ∧ W.frozen? ⟨b, 2, none⟩ = false ∧ W.frozen? ⟨b, 3, none⟩ = false := ⟨blk_frozen h 0, blk_frozen h 1, blk_frozen h 2, blk_frozen h 3⟩
/-- a request's boxes: the settings, what is handed back, and the request at b -/
def RI (w : World) (g b : Nat) (c0 c1 c2 c3 c4 : Int) (x : Nat) (rc : Array Value) (W : World) : Prop :=
  W.heap[w.heap.size]? = some (.cells #[.int .i64 c0, .int .i64 c1, .int .i64 c2, .int .i64 c3, .int .i64 c4] 92 (0, 0)) ∧ W.heap[w.heap.size + 1]? = some (.cells Z4 103 (0, 0)) ∧ W.heap[b]? = some (.cells rc 103 (0, 0)) ∧ DAt 113 W g x ∧ OnlyS (· = g) w W ∧ g < w.heap.size ∧ w.heap.size + 1 < b
section
variable {w W W' : World} {g b x y : Nat} {c0 c1 c2 c3 c4 : Int} {rc : Array Value}
theorem ri_r (h : RI w g b c0 c1 c2 c3 c4 x rc W) : W.heap[b]? = some (.cells rc 103 (0, 0)) := h.2.2.1
theorem ri_d (h : RI w g b c0 c1 c2 c3 c4 x rc W) : DAt 113 W g x := h.2.2.2.1
theorem ri_o (h : RI w g b c0 c1 c2 c3 c4 x rc W) : OnlyS (· = g) w W := h.2.2.2.2.1
theorem ri_c (h : RI w g b c0 c1 c2 c3 c4 x rc W) : W.cell? ⟨w.heap.size, 0, none⟩ = some (.int .i64 c0) := blk_cell h.1 0
theorem ri_dice (h : RI w g b c0 c1 c2 c3 c4 x rc W) (hd : DAt 113 W' g y) (ho : OnlyS (· = g) W W') : RI w g b c0 c1 c2 c3 c4 y rc W' :=
  have hg := h.2.2.2.2.2.1
  have hb := h.2.2.2.2.2.2
  ⟨blk_only h.1 ho (by omega), blk_only h.2.1 ho (by omega), blk_only h.2.2.1 ho (by omega), hd, h.2.2.2.2.1.trans ho (fun _ hk => .inl hk), hg, hb⟩
theorem ri_set (h : RI w g b c0 c1 c2 c3 c4 x rc W) (j : Nat) (u : Value) : RI w g b c0 c1 c2 c3 c4 x (rc.setIfInBounds j u) (W.setCell ⟨b, j, none⟩ u) :=
  have hg := h.2.2.2.2.2.1
  have hb := h.2.2.2.2.2.2
  ⟨far_at h.1 (by show _ ≠ b; omega) u, far_at h.2.1 (by show _ ≠ b; omega) u, set_at h.2.2.1 j u, far_at h.2.2.2.1 (by show _ ≠ b; omega) u, h.2.2.2.2.1.set _ _ (.inr (by show _ ≤ b; omega)), hg, hb⟩
end
theorem spanL_ge (s : Int) (x : Nat) : 1 ≤ spanL s x := by
  have := lessN_le (n := if s < 8 then s else 8) (x := x)
  unfold spanL
  omega
theorem spanL_le {s : Int} (x : Nat) (hs : 1 ≤ s) : spanL s x ≤ 8 := by
  unfold spanL
  split
  · have := lessN_lt (n := s) (x := x) hs; omega
  · have := lessN_lt (n := 8) (x := x) (by decide); omega
/-- what a request leaves -/
def ReqQ (t : Nat) (W : World) (g : Nat) (r : Rq × Nat) (e : Ending) (w' : World) : Prop :=
  ∃ v, e = .returned (.agg #[.int .i64 r.1.kd, .int .i64 r.1.off, .int .i64 r.1.len, v]) ∧ Kd.R KB 5 w' W.heap.size (fun _ => True) v r.1.data ∧ DAt t w' g r.2 ∧ OnlyS (· = g) W w'
set_option maxRecDepth 20000 in
set_option maxHeartbeats 4000000 in
theorem request_c (g x : Nat) (c0 c1 c2 c3 c4 : Int) (w : World) (hl : Live x) (hgood : reqGood c0 c1 c2 c3 c4 = true) (hs : 1 ≤ c0) (hs2 : c0 ≤ 256) (h : DAt 113 w g x) :
    Calls Try.prog 48 #[.pointer (some ⟨g, 0, none⟩), Cf c0 c1 c2 c3 c4] w (ReqQ 113 w g (reqN c0 x)) := by
  have hgw := d_lt h
  have GD := Lib.hid (fun w => reqGood_walk c0 c1 c2 c3 c4 w)
  have HG := Lib.hid hgood
  have hcfg : ((w.alloc (.cells #[.int .i64 c0, .int .i64 c1, .int .i64 c2, .int .i64 c3, .int .i64 c4] 92)).alloc (.cells Z4 103)).heap[w.heap.size]? = some (.cells #[.int .i64 c0, .int .i64 c1, .int .i64 c2, .int .i64 c3, .int .i64 c4] 92 (0, 0)) := old_at (new_at _ _) _
  have hres : ((w.alloc (.cells #[.int .i64 c0, .int .i64 c1, .int .i64 c2, .int .i64 c3, .int .i64 c4] 92)).alloc (.cells Z4 103)).heap[w.heap.size + 1]? = some (.cells Z4 103 (0, 0)) := new_at1 _ _ _
  have hd0 : DAt 113 ((w.alloc (.cells #[.int .i64 c0, .int .i64 c1, .int .i64 c2, .int .i64 c3, .int .i64 c4] 92)).alloc (.cells Z4 103)) g x := old_at (old_at h _) _
  have ho0 : OnlyS (· = g) w ((w.alloc (.cells #[.int .i64 c0, .int .i64 c1, .int .i64 c2, .int .i64 c3, .int .i64 c4] 92)).alloc (.cells Z4 103)) := ((OnlyS.refl _ _).alloc _).alloc _
  have IS := Lib.hid (is_yes g x _ hl hd0)
  have HD0 := Lib.hid hd0
  have HO0 := Lib.hid ho0
  have HC0 := Lib.hid hcfg
  have HR0 := Lib.hid hres
  clear h hgood hcfg hres hd0 ho0
  go_enter Try.func48, Try.ntmps48
  go_upto_region 1 with (fail)
  generalize (w.alloc (.cells #[.int .i64 c0, .int .i64 c1, .int .i64 c2, .int .i64 c3, .int .i64 c4] 92)).alloc (.cells Z4 103) = W0 at IS HD0 HO0 HC0 HR0 ⊢
  have f0 := blk_cell HC0.out 0
  have f1 := blk_cell HC0.out 1
  have f2 := blk_cell HC0.out 2
  have f3 := blk_cell HC0.out 3
  have f4 := blk_cell HC0.out 4
  go_upto_region 4 with (first
    | (go_at_call 83; refine IS.out.mono ?_; rintro e w' ⟨rfl, rfl⟩)
    | (go_at_call 53; refine (GD.out _).mono ?_; rw [HG.out]; rintro e w3 ⟨rfl, hb3⟩; have HI := Lib.hid (show RI w g w3.heap.size c0 c1 c2 c3 c4 x Z4 (w3.alloc (.cells Z4 103)) from ⟨old_at (keep_at_all HC0.out hb3) _, old_at (keep_at_all HR0.out hb3) _, new_at _ _, old_at (d_below HD0.out hb3) _, (HO0.out.below hb3).alloc _, hgw, lt_at (keep_at_all HR0.out hb3)⟩); clear f0 f1 f2 f3 f4 hb3))
  generalize hbq : w3.heap.size = b at HI ⊢
  generalize w3.alloc (.cells Z4 103) = w1 at HI ⊢
  clear hbq IS HD0 HO0 HC0 HR0 GD HG
  have BL := Lib.hid (below_yes g x 5 w1 hl (by decide) (ri_d HI.out))
  have hy : Live (lessS 5 x) := lessS_live hl
  have t0 := lessN_le (n := 5) (x := x)
  have t5 := lessN_lt (n := 5) (x := x) (by decide)
  rcases (show lessN 5 x = 0 ∨ lessN 5 x = 1 ∨ lessN 5 x = 2 ∨ lessN 5 x = 3 ∨ lessN 5 x = 4 by omega) with ht | ht | ht | ht | ht
  · have E : reqN c0 x = (⟨0, spanO c0 (lessS 5 x), spanL c0 (lessS 5 x), []⟩, spanS c0 (lessS 5 x)) := by unfold reqN; rw [ht, if_pos (by decide)]
    have SP := Lib.hid (fun W (hW : DAt 113 W g (lessS 5 x)) => span_c g (lessS 5 x) c0 W hy hs hs2 hW)
    rw [ht] at BL
    generalize spanO c0 (lessS 5 x) = O at SP E
    generalize spanL c0 (lessS 5 x) = L at SP E
    generalize spanS c0 (lessS 5 x) = z at SP E
    generalize lessS 5 x = y at BL SP hy
    have EE := Lib.hid E
    clear E t0 t5 ht hy hl hs hs2
    go_wp2_with (first
      | (go_at_call 43; (with_reducible refine BL.out.mono ?_); rintro e w4 ⟨rfl, hd4, ho4⟩; have HR4 := Lib.hid (ri_dice HI.out hd4 ho4); have f0 := ri_c HR4.out; obtain ⟨k0, k1, k2, k3⟩ := cl4 (ri_r HR4.out); obtain ⟨z0, z1, z2, z3⟩ := fz4 (ri_r HR4.out); have hqb := HR4.out.2.2.2.2.2.2; clear hd4 ho4)
      | (go_at_call 84; refine (SP.out _ (ri_d (ri_set HR4.out 0 (.int .i64 0)))).mono ?_; rintro e w5 ⟨rfl, hd5, ho5⟩; have HR5 := Lib.hid (show RI w g b c0 c1 c2 c3 c4 z #[.int .i64 0, .int .i64 0, .int .i64 0, .slice none 0 0] w5 from ri_dice (ri_set HR4.out 0 (.int .i64 0)) hd5 ho5); clear f0 k0 k1 k2 k3 z0 z1 z2 z3 hd5 ho5; obtain ⟨k0, k1, k2, k3⟩ := cl4 (ri_r HR5.out); obtain ⟨z0, z1, z2, z3⟩ := fz4 (ri_r HR5.out); obtain ⟨y0, y1, y2, y3⟩ := fz4 HR5.out.2.1; obtain ⟨u0, u1, u2, u3⟩ := cl4 HR5.out.2.1))
    have HR7 := Lib.hid (show RI w g b c0 c1 c2 c3 c4 z #[.int .i64 0, .int .i64 O, .int .i64 L, .slice none 0 0] ((w5.setCell ⟨b, 1, none⟩ (.int .i64 O)).setCell ⟨b, 2, none⟩ (.int .i64 L)) from ri_set (ri_set HR5.out 1 (.int .i64 O)) 2 (.int .i64 L))
    refine bodyPost_ret (results_cell_row rfl _ _ (w.heap.size + 1) 103 #[.int .i64 0, .int .i64 O, .int .i64 L, .slice none 0 0] (0, 0) _ rfl (set4 HR7.out.2.1) Try.underlying103 rfl (by kernel_rfl)) rfl ?_
    show ReqQ 113 w g (reqN c0 x) _ _
    rw [EE.out]
    have o4 := only4 ((w5.setCell ⟨b, 1, none⟩ (.int .i64 O)).setCell ⟨b, 2, none⟩ (.int .i64 L)) (w.heap.size + 1) (.int .i64 0) (.int .i64 O) (.int .i64 L) (.slice none 0 0)
    exact ⟨_, rfl, Kd.R_nil _ _ _ _ _, d_only (ri_d HR7.out) o4 (fun he => by omega), (ri_o HR7.out).trans o4 (fun k hk => .inr (by omega))⟩
  · have E : reqN c0 x = (⟨0, spanO c0 (lessS 5 x), spanL c0 (lessS 5 x), []⟩, spanS c0 (lessS 5 x)) := by unfold reqN; rw [ht, if_pos (by decide)]
    have SP := Lib.hid (fun W (hW : DAt 113 W g (lessS 5 x)) => span_c g (lessS 5 x) c0 W hy hs hs2 hW)
    rw [ht] at BL
    generalize spanO c0 (lessS 5 x) = O at SP E
    generalize spanL c0 (lessS 5 x) = L at SP E
    generalize spanS c0 (lessS 5 x) = z at SP E
    generalize lessS 5 x = y at BL SP hy
    have EE := Lib.hid E
    clear E t0 t5 ht hy hl hs hs2
    go_wp2_with (first
      | (go_at_call 43; (with_reducible refine BL.out.mono ?_); rintro e w4 ⟨rfl, hd4, ho4⟩; have HR4 := Lib.hid (ri_dice HI.out hd4 ho4); have f0 := ri_c HR4.out; obtain ⟨k0, k1, k2, k3⟩ := cl4 (ri_r HR4.out); obtain ⟨z0, z1, z2, z3⟩ := fz4 (ri_r HR4.out); have hqb := HR4.out.2.2.2.2.2.2; clear hd4 ho4)
      | (go_at_call 84; refine (SP.out _ (ri_d (ri_set HR4.out 0 (.int .i64 0)))).mono ?_; rintro e w5 ⟨rfl, hd5, ho5⟩; have HR5 := Lib.hid (show RI w g b c0 c1 c2 c3 c4 z #[.int .i64 0, .int .i64 0, .int .i64 0, .slice none 0 0] w5 from ri_dice (ri_set HR4.out 0 (.int .i64 0)) hd5 ho5); clear f0 k0 k1 k2 k3 z0 z1 z2 z3 hd5 ho5; obtain ⟨k0, k1, k2, k3⟩ := cl4 (ri_r HR5.out); obtain ⟨z0, z1, z2, z3⟩ := fz4 (ri_r HR5.out); obtain ⟨y0, y1, y2, y3⟩ := fz4 HR5.out.2.1; obtain ⟨u0, u1, u2, u3⟩ := cl4 HR5.out.2.1))
    have HR7 := Lib.hid (show RI w g b c0 c1 c2 c3 c4 z #[.int .i64 0, .int .i64 O, .int .i64 L, .slice none 0 0] ((w5.setCell ⟨b, 1, none⟩ (.int .i64 O)).setCell ⟨b, 2, none⟩ (.int .i64 L)) from ri_set (ri_set HR5.out 1 (.int .i64 O)) 2 (.int .i64 L))
    refine bodyPost_ret (results_cell_row rfl _ _ (w.heap.size + 1) 103 #[.int .i64 0, .int .i64 O, .int .i64 L, .slice none 0 0] (0, 0) _ rfl (set4 HR7.out.2.1) Try.underlying103 rfl (by kernel_rfl)) rfl ?_
    show ReqQ 113 w g (reqN c0 x) _ _
    rw [EE.out]
    have o4 := only4 ((w5.setCell ⟨b, 1, none⟩ (.int .i64 O)).setCell ⟨b, 2, none⟩ (.int .i64 L)) (w.heap.size + 1) (.int .i64 0) (.int .i64 O) (.int .i64 L) (.slice none 0 0)
    exact ⟨_, rfl, Kd.R_nil _ _ _ _ _, d_only (ri_d HR7.out) o4 (fun he => by omega), (ri_o HR7.out).trans o4 (fun k hk => .inr (by omega))⟩
  · have E : reqN c0 x = (⟨1, spanO c0 (lessS 5 x), spanL c0 (lessS 5 x), (dataN (spanL c0 (lessS 5 x)).toNat (spanS c0 (lessS 5 x))).1⟩, (dataN (spanL c0 (lessS 5 x)).toNat (spanS c0 (lessS 5 x))).2) := by unfold reqN; rw [ht, if_neg (by decide), if_pos (by decide)]
    have SP := Lib.hid (fun W (hW : DAt 113 W g (lessS 5 x)) => span_c g (lessS 5 x) c0 W hy hs hs2 hW)
    have hL0 := spanL_ge c0 (lessS 5 x)
    have hL8 := spanL_le (lessS 5 x) hs
    have hz : Live (spanS c0 (lessS 5 x)) := lessS_live (lessS_live hy)
    rw [ht] at BL
    generalize spanO c0 (lessS 5 x) = O at SP E
    generalize spanL c0 (lessS 5 x) = L at SP E hL0 hL8
    generalize spanS c0 (lessS 5 x) = z at SP E hz
    generalize lessS 5 x = y at BL SP hy
    obtain ⟨n, rfl⟩ := Int.eq_ofNat_of_zero_le (show 0 ≤ L by omega)
    rw [Int.toNat_natCast] at E
    have SE := Lib.hid (fun W (hW : DAt 113 W g z) => sectors_c g z n W hz (by omega) hW)
    generalize dataN n z = dd at SE E
    have EE := Lib.hid E
    clear E t0 t5 ht hy hl hs hs2 hz hL0 hL8
    go_wp2_with (first
      | (go_at_call 43; (with_reducible refine BL.out.mono ?_); rintro e w4 ⟨rfl, hd4, ho4⟩; have HR4 := Lib.hid (ri_dice HI.out hd4 ho4); have f0 := ri_c HR4.out; obtain ⟨k0, k1, k2, k3⟩ := cl4 (ri_r HR4.out); obtain ⟨z0, z1, z2, z3⟩ := fz4 (ri_r HR4.out); have hqb := HR4.out.2.2.2.2.2.2; clear hd4 ho4)
      | (go_at_call 84; refine (SP.out _ (ri_d (ri_set HR4.out 0 (.int .i64 1)))).mono ?_; rintro e w5 ⟨rfl, hd5, ho5⟩; have HR5 := Lib.hid (show RI w g b c0 c1 c2 c3 c4 z #[.int .i64 1, .int .i64 0, .int .i64 0, .slice none 0 0] w5 from ri_dice (ri_set HR4.out 0 (.int .i64 1)) hd5 ho5); clear f0 k0 k1 k2 k3 z0 z1 z2 z3 hd5 ho5; obtain ⟨k0, k1, k2, k3⟩ := cl4 (ri_r HR5.out); obtain ⟨z0, z1, z2, z3⟩ := fz4 (ri_r HR5.out))
      | (go_at_call 85; refine (SE.out _ (ri_d (ri_set (ri_set HR5.out 1 (.int .i64 O)) 2 (.int .i64 n)))).mono ?_; rintro e w6 ⟨v6, rfl, hr6, hd6, ho6⟩; obtain ⟨A6, c6, rfl⟩ := Kd.R_slice hr6; have HR6 := Lib.hid (show RI w g b c0 c1 c2 c3 c4 dd.2 #[.int .i64 1, .int .i64 O, .int .i64 n, .slice none 0 0] w6 from ri_dice (ri_set (ri_set HR5.out 1 (.int .i64 O)) 2 (.int .i64 n)) hd6 ho6); have HD6 := Lib.hid hr6; have HSZ := Lib.hid (lt_at (ri_r (ri_set (ri_set HR5.out 1 (.int .i64 O)) 2 (.int .i64 n)))); have HS5 := Lib.hid ((ri_o (ri_set (ri_set HR5.out 1 (.int .i64 O)) 2 (.int .i64 n))).size); clear k0 k1 k2 k3 z0 z1 z2 z3 hd6 ho6 hr6; obtain ⟨k0, k1, k2, k3⟩ := cl4 (ri_r HR6.out); obtain ⟨z0, z1, z2, z3⟩ := fz4 (ri_r HR6.out); obtain ⟨y0, y1, y2, y3⟩ := fz4 HR6.out.2.1; obtain ⟨u0, u1, u2, u3⟩ := cl4 HR6.out.2.1))
    have HR7 := Lib.hid (show RI w g b c0 c1 c2 c3 c4 dd.2 #[.int .i64 1, .int .i64 O, .int .i64 n, .slice A6 dd.1.length c6] (w6.setCell ⟨b, 3, none⟩ (.slice A6 dd.1.length c6)) from ri_set HR6.out 3 (.slice A6 dd.1.length c6))
    refine bodyPost_ret (results_cell_row rfl _ _ (w.heap.size + 1) 103 #[.int .i64 1, .int .i64 O, .int .i64 n, .slice A6 dd.1.length c6] (0, 0) _ rfl (set4 HR7.out.2.1) Try.underlying103 rfl (by kernel_rfl)) rfl ?_
    show ReqQ 113 w g (reqN c0 x) _ _
    rw [EE.out]
    have o4 := only4 (w6.setCell ⟨b, 3, none⟩ (.slice A6 dd.1.length c6)) (w.heap.size + 1) (.int .i64 1) (.int .i64 O) (.int .i64 n) (.slice A6 dd.1.length c6)
    refine ⟨_, rfl, ?_, d_only (ri_d HR7.out) o4 (fun he => by omega), (ri_o HR7.out).trans o4 (fun k hk => .inr (by omega))⟩
    have ho7 : OnlyS (fun k => k = b ∨ k = w.heap.size + 1) w6 _ := ((OnlyS.refl _ w6).set ⟨b, 3, none⟩ (.slice A6 dd.1.length c6) (.inl (.inl rfl))).trans o4 (fun k hk => .inl (.inr hk))
    exact Kd.R_lower (Kd.R_mono (Kd.R_step (Kd.R_bound HD6.out) (fun k hk hlt => ho7.block k hlt (fun he => by have h1 := HSZ.out; have h2 := hk.2.1; omega))) (fun _ _ => trivial)) HS5.out
  · have E : reqN c0 x = (⟨1, spanO c0 (lessS 5 x), spanL c0 (lessS 5 x), (dataN (spanL c0 (lessS 5 x)).toNat (spanS c0 (lessS 5 x))).1⟩, (dataN (spanL c0 (lessS 5 x)).toNat (spanS c0 (lessS 5 x))).2) := by unfold reqN; rw [ht, if_neg (by decide), if_pos (by decide)]
    have SP := Lib.hid (fun W (hW : DAt 113 W g (lessS 5 x)) => span_c g (lessS 5 x) c0 W hy hs hs2 hW)
    have hL0 := spanL_ge c0 (lessS 5 x)
    have hL8 := spanL_le (lessS 5 x) hs
    have hz : Live (spanS c0 (lessS 5 x)) := lessS_live (lessS_live hy)
    rw [ht] at BL
    generalize spanO c0 (lessS 5 x) = O at SP E
    generalize spanL c0 (lessS 5 x) = L at SP E hL0 hL8
    generalize spanS c0 (lessS 5 x) = z at SP E hz
    generalize lessS 5 x = y at BL SP hy
    obtain ⟨n, rfl⟩ := Int.eq_ofNat_of_zero_le (show 0 ≤ L by omega)
    rw [Int.toNat_natCast] at E
    have SE := Lib.hid (fun W (hW : DAt 113 W g z) => sectors_c g z n W hz (by omega) hW)
    generalize dataN n z = dd at SE E
    have EE := Lib.hid E
    clear E t0 t5 ht hy hl hs hs2 hz hL0 hL8
    go_wp2_with (first
      | (go_at_call 43; (with_reducible refine BL.out.mono ?_); rintro e w4 ⟨rfl, hd4, ho4⟩; have HR4 := Lib.hid (ri_dice HI.out hd4 ho4); have f0 := ri_c HR4.out; obtain ⟨k0, k1, k2, k3⟩ := cl4 (ri_r HR4.out); obtain ⟨z0, z1, z2, z3⟩ := fz4 (ri_r HR4.out); have hqb := HR4.out.2.2.2.2.2.2; clear hd4 ho4)
      | (go_at_call 84; refine (SP.out _ (ri_d (ri_set HR4.out 0 (.int .i64 1)))).mono ?_; rintro e w5 ⟨rfl, hd5, ho5⟩; have HR5 := Lib.hid (show RI w g b c0 c1 c2 c3 c4 z #[.int .i64 1, .int .i64 0, .int .i64 0, .slice none 0 0] w5 from ri_dice (ri_set HR4.out 0 (.int .i64 1)) hd5 ho5); clear f0 k0 k1 k2 k3 z0 z1 z2 z3 hd5 ho5; obtain ⟨k0, k1, k2, k3⟩ := cl4 (ri_r HR5.out); obtain ⟨z0, z1, z2, z3⟩ := fz4 (ri_r HR5.out))
      | (go_at_call 85; refine (SE.out _ (ri_d (ri_set (ri_set HR5.out 1 (.int .i64 O)) 2 (.int .i64 n)))).mono ?_; rintro e w6 ⟨v6, rfl, hr6, hd6, ho6⟩; obtain ⟨A6, c6, rfl⟩ := Kd.R_slice hr6; have HR6 := Lib.hid (show RI w g b c0 c1 c2 c3 c4 dd.2 #[.int .i64 1, .int .i64 O, .int .i64 n, .slice none 0 0] w6 from ri_dice (ri_set (ri_set HR5.out 1 (.int .i64 O)) 2 (.int .i64 n)) hd6 ho6); have HD6 := Lib.hid hr6; have HSZ := Lib.hid (lt_at (ri_r (ri_set (ri_set HR5.out 1 (.int .i64 O)) 2 (.int .i64 n)))); have HS5 := Lib.hid ((ri_o (ri_set (ri_set HR5.out 1 (.int .i64 O)) 2 (.int .i64 n))).size); clear k0 k1 k2 k3 z0 z1 z2 z3 hd6 ho6 hr6; obtain ⟨k0, k1, k2, k3⟩ := cl4 (ri_r HR6.out); obtain ⟨z0, z1, z2, z3⟩ := fz4 (ri_r HR6.out); obtain ⟨y0, y1, y2, y3⟩ := fz4 HR6.out.2.1; obtain ⟨u0, u1, u2, u3⟩ := cl4 HR6.out.2.1))
    have HR7 := Lib.hid (show RI w g b c0 c1 c2 c3 c4 dd.2 #[.int .i64 1, .int .i64 O, .int .i64 n, .slice A6 dd.1.length c6] (w6.setCell ⟨b, 3, none⟩ (.slice A6 dd.1.length c6)) from ri_set HR6.out 3 (.slice A6 dd.1.length c6))
    refine bodyPost_ret (results_cell_row rfl _ _ (w.heap.size + 1) 103 #[.int .i64 1, .int .i64 O, .int .i64 n, .slice A6 dd.1.length c6] (0, 0) _ rfl (set4 HR7.out.2.1) Try.underlying103 rfl (by kernel_rfl)) rfl ?_
    show ReqQ 113 w g (reqN c0 x) _ _
    rw [EE.out]
    have o4 := only4 (w6.setCell ⟨b, 3, none⟩ (.slice A6 dd.1.length c6)) (w.heap.size + 1) (.int .i64 1) (.int .i64 O) (.int .i64 n) (.slice A6 dd.1.length c6)
    refine ⟨_, rfl, ?_, d_only (ri_d HR7.out) o4 (fun he => by omega), (ri_o HR7.out).trans o4 (fun k hk => .inr (by omega))⟩
    have ho7 : OnlyS (fun k => k = b ∨ k = w.heap.size + 1) w6 _ := ((OnlyS.refl _ w6).set ⟨b, 3, none⟩ (.slice A6 dd.1.length c6) (.inl (.inl rfl))).trans o4 (fun k hk => .inl (.inr hk))
    exact Kd.R_lower (Kd.R_mono (Kd.R_step (Kd.R_bound HD6.out) (fun k hk hlt => ho7.block k hlt (fun he => by have h1 := HSZ.out; have h2 := hk.2.1; omega))) (fun _ _ => trivial)) HS5.out
  · have E : reqN c0 x = (⟨2, 0, 0, []⟩, lessS 5 x) := by unfold reqN; rw [ht, if_neg (by decide), if_neg (by decide)]
    rw [ht] at BL
    generalize lessS 5 x = y at BL hy E
    have EE := Lib.hid E
    clear E t0 t5 ht hy hl hs hs2
    go_wp2_with (first
      | (go_at_call 43; (with_reducible refine BL.out.mono ?_); rintro e w4 ⟨rfl, hd4, ho4⟩; have HR4 := Lib.hid (ri_dice HI.out hd4 ho4); obtain ⟨k0, k1, k2, k3⟩ := cl4 (ri_r HR4.out); obtain ⟨z0, z1, z2, z3⟩ := fz4 (ri_r HR4.out); have hqb := HR4.out.2.2.2.2.2.2; clear hd4 ho4; obtain ⟨y0, y1, y2, y3⟩ := fz4 HR4.out.2.1; obtain ⟨u0, u1, u2, u3⟩ := cl4 HR4.out.2.1))
    have HR7 := Lib.hid (show RI w g b c0 c1 c2 c3 c4 y #[.int .i64 2, .int .i64 0, .int .i64 0, .slice none 0 0] (w4.setCell ⟨b, 0, none⟩ (.int .i64 2)) from ri_set HR4.out 0 (.int .i64 2))
    refine bodyPost_ret (results_cell_row rfl _ _ (w.heap.size + 1) 103 #[.int .i64 2, .int .i64 0, .int .i64 0, .slice none 0 0] (0, 0) _ rfl (set4 HR7.out.2.1) Try.underlying103 rfl (by kernel_rfl)) rfl ?_
    show ReqQ 113 w g (reqN c0 x) _ _
    rw [EE.out]
    have o4 := only4 (w4.setCell ⟨b, 0, none⟩ (.int .i64 2)) (w.heap.size + 1) (.int .i64 2) (.int .i64 0) (.int .i64 0) (.slice none 0 0)
    exact ⟨_, rfl, Kd.R_nil _ _ _ _ _, d_only (ri_d HR7.out) o4 (fun he => by omega), (ri_o HR7.out).trans o4 (fun k hk => .inr (by omega))⟩
end Go.Proofs.Ytoobbolaoldacaa.DiceW
