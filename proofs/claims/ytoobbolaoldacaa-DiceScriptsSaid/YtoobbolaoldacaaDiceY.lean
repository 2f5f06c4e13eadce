/-
  Dice: an act, the reference's (printed by tools/mkdicera.py).
-/
import Derived.Test.YtoobbolaoldacaaDiceV
import Derived.Test.YtoobbolaoldacaaDiceL
namespace Go.Proofs.Ytoobbolaoldacaa.DiceW
open Go.RowKit Go.Proofs.Ytoobbolaoldacaa Go.Proofs.Ytoobbolaoldacaa.Dice Go.Proofs.Ytoobbolaoldacaa.DiceP Go.Proofs.Ytoobbolaoldacaa.RowOwn Go.Proofs.YtoobbolaoldacaaW.PrintWords Go.Proofs.YtoobbolaoldacaaW.PrintLast Go.Proofs.YtoobbolaoldacaaW.PrintMore
set_option linter.unusedVariables false
/-- the boxes of a call: the settings at q, the weights behind them, then what is handed back -/
def AJ (w : World) (g q : Nat) (c0 c1 c2 c3 c4 a0 a1 a2 a3 a4 a5 a6 a7 : Int) (x : Nat) (W : World) : Prop :=
  W.heap[q]? = some (.cells #[.int .i64 c0, .int .i64 c1, .int .i64 c2, .int .i64 c3, .int .i64 c4] 92 (0, 0)) ∧ W.heap[q + 1]? = some (.cells #[.int .i64 a0, .int .i64 a1, .int .i64 a2, .int .i64 a3, .int .i64 a4, .int .i64 a5, .int .i64 a6, .int .i64 a7] 93 (0, 0)) ∧ W.heap[q + 1 + 1]? = some (.cells #[.int .i64 0, .int .i64 0, .int .i64 0, .int .u64 0, .int .i64 0, .int .i64 0, .int .i64 0, .slice none 0 0] 107 (0, 0)) ∧ DAt 149 W g x ∧ OnlyS (· = g) w W ∧ g < q
section
variable {w W W' : World} {g q x y : Nat} {c0 c1 c2 c3 c4 a0 a1 a2 a3 a4 a5 a6 a7 : Int}
theorem aj_below (h : AJ w g q c0 c1 c2 c3 c4 a0 a1 a2 a3 a4 a5 a6 a7 x W) (hb : Below W.heap.size W W') : AJ w g q c0 c1 c2 c3 c4 a0 a1 a2 a3 a4 a5 a6 a7 x W' :=
  ⟨keep_at_all h.1 hb, keep_at_all h.2.1 hb, keep_at_all h.2.2.1 hb, d_below h.2.2.2.1 hb, h.2.2.2.2.1.below hb, h.2.2.2.2.2⟩
theorem aj_drew (h : AJ w g q c0 c1 c2 c3 c4 a0 a1 a2 a3 a4 a5 a6 a7 x W) : AJ w g q c0 c1 c2 c3 c4 a0 a1 a2 a3 a4 a5 a6 a7 x W.drew := aj_below h (bl_drew (Below.refl _ _) 1)
theorem aj_alloc (h : AJ w g q c0 c1 c2 c3 c4 a0 a1 a2 a3 a4 a5 a6 a7 x W) (o : Obj) : AJ w g q c0 c1 c2 c3 c4 a0 a1 a2 a3 a4 a5 a6 a7 x (W.alloc o) := aj_below h (bl_all (Below.refl _ _) _)
theorem aj_dice (h : AJ w g q c0 c1 c2 c3 c4 a0 a1 a2 a3 a4 a5 a6 a7 x W) (hd : DAt 149 W' g y) (ho : OnlyS (· = g) W W') : AJ w g q c0 c1 c2 c3 c4 a0 a1 a2 a3 a4 a5 a6 a7 y W' :=
  have hg := h.2.2.2.2.2
  ⟨blk_only h.1 ho (by omega), blk_only h.2.1 ho (by omega), blk_only h.2.2.1 ho (by omega), hd, h.2.2.2.2.1.trans ho (fun _ hk => .inl hk), hg⟩
theorem aj_set (h : AJ w g q c0 c1 c2 c3 c4 a0 a1 a2 a3 a4 a5 a6 a7 x W) {p : Addr} (hp : q + 1 + 1 < p.block) (hw : w.heap.size ≤ p.block) (u : Value) : AJ w g q c0 c1 c2 c3 c4 a0 a1 a2 a3 a4 a5 a6 a7 x (W.setCell p u) :=
  have hg := h.2.2.2.2.2
  ⟨far_at h.1 (by omega) u, far_at h.2.1 (by omega) u, far_at h.2.2.1 (by omega) u, far_at h.2.2.2.1 (by omega) u, h.2.2.2.2.1.set _ _ (.inr hw), hg⟩
theorem aj_ws (h : AJ w g q c0 c1 c2 c3 c4 a0 a1 a2 a3 a4 a5 a6 a7 x W) : W.cell? ⟨q + 1, 0, none⟩ = some (.int .i64 a0) ∧ W.cell? ⟨q + 1, 1, none⟩ = some (.int .i64 a1) ∧ W.cell? ⟨q + 1, 2, none⟩ = some (.int .i64 a2) ∧ W.cell? ⟨q + 1, 3, none⟩ = some (.int .i64 a3) ∧ W.cell? ⟨q + 1, 4, none⟩ = some (.int .i64 a4) ∧ W.cell? ⟨q + 1, 5, none⟩ = some (.int .i64 a5) ∧ W.cell? ⟨q + 1, 6, none⟩ = some (.int .i64 a6) ∧ W.cell? ⟨q + 1, 7, none⟩ = some (.int .i64 a7) :=
  ⟨blk_cell h.2.1 0, blk_cell h.2.1 1, blk_cell h.2.1 2, blk_cell h.2.1 3, blk_cell h.2.1 4, blk_cell h.2.1 5, blk_cell h.2.1 6, blk_cell h.2.1 7⟩
theorem aj_cf (h : AJ w g q c0 c1 c2 c3 c4 a0 a1 a2 a3 a4 a5 a6 a7 x W) : W.cell? ⟨q, 0, none⟩ = some (.int .i64 c0) ∧ W.cell? ⟨q, 1, none⟩ = some (.int .i64 c1) ∧ W.cell? ⟨q, 2, none⟩ = some (.int .i64 c2) ∧ W.cell? ⟨q, 3, none⟩ = some (.int .i64 c3) ∧ W.cell? ⟨q, 4, none⟩ = some (.int .i64 c4) :=
  ⟨blk_cell h.1 0, blk_cell h.1 1, blk_cell h.1 2, blk_cell h.1 3, blk_cell h.1 4⟩
theorem aj_d (h : AJ w g q c0 c1 c2 c3 c4 a0 a1 a2 a3 a4 a5 a6 a7 x W) : DAt 149 W g x := h.2.2.2.1
theorem aj_lt (h : AJ w g q c0 c1 c2 c3 c4 a0 a1 a2 a3 a4 a5 a6 a7 x W) : q + 1 + 1 < W.heap.size := lt_at h.2.2.1
end
theorem onlyS_mono {S T : Nat → Prop} {w w1 : World} (h : OnlyS S w w1) (hST : ∀ k, S k → T k) : OnlyS T w w1 := ⟨h.os, h.tape, h.output, h.size, fun k hk hn => h.block k hk (fun hs => hn (hST k hs))⟩
theorem ract0_end {w w5 w6 : World} {g q b d6 : Nat} {who c0 c1 c2 c3 c4 a0 a1 a2 a3 a4 a5 a6 a7 : Int} {A6 : Option Addr} {r : Rq × Nat} (hw : w.heap.size = q) (hql : q + 1 + 1 < b) (hb : b < w5.heap.size) (hR : Kd.R KB 5 w6 w5.heap.size (fun _ => True) (.slice A6 r.1.data.length d6) r.1.data)
    (hs : AJ w g q c0 c1 c2 c3 c4 a0 a1 a2 a3 a4 a5 a6 a7 r.2 ((((w6.setCell ⟨b, 4, none⟩ (.int .i64 r.1.kd)).setCell ⟨b, 5, none⟩ (.int .i64 r.1.off)).setCell ⟨b, 6, none⟩ (.int .i64 r.1.len)).setCell ⟨b, 7, none⟩ (.slice A6 r.1.data.length d6))) :
    ActQ 149 w g ((⟨0, who, 0, 0, r.1⟩ : Ac), r.2) (.returned (.agg #[.int .i64 0, .int .i64 who, .int .i64 0, .int .u64 0, .int .i64 r.1.kd, .int .i64 r.1.off, .int .i64 r.1.len, .slice A6 r.1.data.length d6])) ((((((((((((w6.setCell ⟨b, 4, none⟩ (.int .i64 r.1.kd)).setCell ⟨b, 5, none⟩ (.int .i64 r.1.off)).setCell ⟨b, 6, none⟩ (.int .i64 r.1.len)).setCell ⟨b, 7, none⟩ (.slice A6 r.1.data.length d6)).setCell ⟨q + 1 + 1, 0, none⟩ (.int .i64 0)).setCell ⟨q + 1 + 1, 1, none⟩ (.int .i64 who)).setCell ⟨q + 1 + 1, 2, none⟩ (.int .i64 0)).setCell ⟨q + 1 + 1, 3, none⟩ (.int .u64 0)).setCell ⟨q + 1 + 1, 4, none⟩ (.int .i64 r.1.kd)).setCell ⟨q + 1 + 1, 5, none⟩ (.int .i64 r.1.off)).setCell ⟨q + 1 + 1, 6, none⟩ (.int .i64 r.1.len)).setCell ⟨q + 1 + 1, 7, none⟩ (.slice A6 r.1.data.length d6)) := by
  have o47 := only47 w6 b (.int .i64 r.1.kd) (.int .i64 r.1.off) (.int .i64 r.1.len) (.slice A6 r.1.data.length d6)
  have o8 := only8 ((((w6.setCell ⟨b, 4, none⟩ (.int .i64 r.1.kd)).setCell ⟨b, 5, none⟩ (.int .i64 r.1.off)).setCell ⟨b, 6, none⟩ (.int .i64 r.1.len)).setCell ⟨b, 7, none⟩ (.slice A6 r.1.data.length d6)) (q + 1 + 1) (.int .i64 0) (.int .i64 who) (.int .i64 0) (.int .u64 0) (.int .i64 r.1.kd) (.int .i64 r.1.off) (.int .i64 r.1.len) (.slice A6 r.1.data.length d6)
  have hgq := hs.2.2.2.2.2
  have hdd := aj_d hs
  have hoo := hs.2.2.2.2.1
  generalize ((((w6.setCell ⟨b, 4, none⟩ (.int .i64 r.1.kd)).setCell ⟨b, 5, none⟩ (.int .i64 r.1.off)).setCell ⟨b, 6, none⟩ (.int .i64 r.1.len)).setCell ⟨b, 7, none⟩ (.slice A6 r.1.data.length d6)) = W7 at o47 o8 hdd hoo ⊢
  have o9 : OnlyS (fun k => k = b ∨ k = q + 1 + 1) w6 _ := OnlyS.trans (onlyS_mono o47 (fun k hk => .inl hk)) o8 (fun k hk => .inl (.inr hk))
  exact ⟨_, rfl, Kd.R_lower (r_low hR o9 (fun k hk => by omega)) (by omega), d_only hdd o8 (fun he => by omega), hoo.trans o8 (fun k hk => .inr (by omega))⟩
set_option maxRecDepth 20000 in
set_option maxHeartbeats 8000000 in
theorem ract_c (g x : Nat) (c0 c1 c2 c3 c4 a0 a1 a2 a3 a4 a5 a6 a7 : Int) (w : World) (hl : Live x) (hgood : reqGood c0 c1 c2 c3 c4 = true) (hs : 1 ≤ c0) (hs2 : c0 ≤ 256) (hsum : sum8 a0 a1 a2 a3 a4 a5 a6 a7 ≠ 0) (h : DAt 149 w g x) :
    Calls Try.prog 50 #[.pointer (some ⟨g, 0, none⟩), Cf c0 c1 c2 c3 c4, W8 a0 a1 a2 a3 a4 a5 a6 a7] w (ActQ 149 w g (actN c0 a0 a1 a2 a3 a4 a5 a6 a7 x)) := by
  have SM := Lib.hid (fun w => rsum_walk a0 a1 a2 a3 a4 a5 a6 a7 w)
  have GD := Lib.hid (fun w => twainref28_Good.calls c0 c1 c2 c3 c4 true w (by rw [ref_good28, hgood]))
  have H := Lib.hid h
  have HS := Lib.hid hsum
  have HG := Lib.hid hgood
  have hgw := d_lt h
  have hs0 : ¬ sum8 a0 a1 a2 a3 a4 a5 a6 a7 = 0 := hsum
  clear h hsum hgood
  go_enter Try.func50, Try.ntmps50
  go_upto_region 1 with (fail)
  have hA : AJ w g w.heap.size c0 c1 c2 c3 c4 a0 a1 a2 a3 a4 a5 a6 a7 x (((w.alloc (.cells #[.int .i64 c0, .int .i64 c1, .int .i64 c2, .int .i64 c3, .int .i64 c4] 92)).alloc (.cells #[.int .i64 a0, .int .i64 a1, .int .i64 a2, .int .i64 a3, .int .i64 a4, .int .i64 a5, .int .i64 a6, .int .i64 a7] 93)).alloc (.cells #[.int .i64 0, .int .i64 0, .int .i64 0, .int .u64 0, .int .i64 0, .int .i64 0, .int .i64 0, .slice none 0 0] 107)) :=
    ⟨old_at (old_at (new_at _ _) _) _, old_at (new_at1 _ _ _) _, new_at2 _ _ _ _, old_at (old_at (old_at H.out _) _) _, ((OnlyS.refl _ _).alloc _).alloc _ |>.alloc _, hgw⟩
  generalize ((w.alloc (.cells #[.int .i64 c0, .int .i64 c1, .int .i64 c2, .int .i64 c3, .int .i64 c4] 92)).alloc (.cells #[.int .i64 a0, .int .i64 a1, .int .i64 a2, .int .i64 a3, .int .i64 a4, .int .i64 a5, .int .i64 a6, .int .i64 a7] 93)).alloc (.cells #[.int .i64 0, .int .i64 0, .int .i64 0, .int .u64 0, .int .i64 0, .int .i64 0, .int .i64 0, .slice none 0 0] 107) = W0 at hA ⊢
  generalize hq : w.heap.size = q at hA ⊢
  have HQ := Lib.hid hq
  clear hq H hgw
  obtain ⟨f0, f1, f2, f3, f4⟩ := aj_cf hA
  have HA0 := Lib.hid hA
  clear hA
  go_upto_region 3 with (first
    | (go_at_call 86; refine (GD.out _).mono ?_; rintro e w1 ⟨rfl, hb1⟩; have HA1 := Lib.hid (aj_below HA0.out hb1); obtain ⟨e0, e1, e2, e3, e4, e5, e6, e7⟩ := aj_ws HA1.out; clear f0 f1 f2 f3 f4 HA0 hb1)
    | (go_at_call 54; refine (SM.out _).mono ?_; rintro e w2 ⟨rfl, hb2⟩; have HA2 := Lib.hid (aj_below HA1.out hb2); clear e0 e1 e2 e3 e4 e5 e6 e7 HA1 hb2; obtain ⟨e0, e1, e2, e3, e4, e5, e6, e7⟩ := aj_ws HA2.out))
  have BL := Lib.hid (fun W (hW : DAt 149 W g x) => rbelow g x (sum8 a0 a1 a2 a3 a4 a5 a6 a7) W hl (sum8_lt _ _ _ _ _ _ _ _) hW)
  have hkk : kind8 a0 a1 a2 a3 a4 a5 a6 a7 (lessN (sum8 a0 a1 a2 a3 a4 a5 a6 a7) x) = kind8 a0 a1 a2 a3 a4 a5 a6 a7 (lessN (sum8 a0 a1 a2 a3 a4 a5 a6 a7) x) := rfl
  have hall := sum8_all HS.out
  have hless := sum8_less x HS.out
  have hle := lessN_le (n := sum8 a0 a1 a2 a3 a4 a5 a6 a7) (x := x)
  have hk07 := kind8_le a0 a1 a2 a3 a4 a5 a6 a7 (lessN (sum8 a0 a1 a2 a3 a4 a5 a6 a7) x)
  have hxl : Live (lessS (sum8 a0 a1 a2 a3 a4 a5 a6 a7) x) := lessS_live hl
  have EA : actN c0 a0 a1 a2 a3 a4 a5 a6 a7 x = fillN c0 (kind8 a0 a1 a2 a3 a4 a5 a6 a7 (lessN (sum8 a0 a1 a2 a3 a4 a5 a6 a7) x)) (lessN 2 (lessS (sum8 a0 a1 a2 a3 a4 a5 a6 a7) x)) (lessS 2 (lessS (sum8 a0 a1 a2 a3 a4 a5 a6 a7) x)) := rfl
  generalize lessN (sum8 a0 a1 a2 a3 a4 a5 a6 a7) x = tt at BL hless hle hk07 EA
  generalize lessS (sum8 a0 a1 a2 a3 a4 a5 a6 a7) x = xx at BL hxl EA
  generalize hkk2 : kind8 a0 a1 a2 a3 a4 a5 a6 a7 tt = kk at EA hk07
  generalize sum8 a0 a1 a2 a3 a4 a5 a6 a7 = sm at BL SM ⊢ hs0
  have HKK := Lib.hid hkk2
  have HEA := Lib.hid EA
  clear hkk hkk2 EA GD HS
  go_upto_block 0 with (first
    | (go_at_call 54; refine (SM.out _).mono ?_; rintro e w3 ⟨rfl, hb3⟩; have HA3 := Lib.hid (aj_below HA2.out hb3); clear e0 e1 e2 e3 e4 e5 e6 e7 HA2 hb3)
    | (go_at_call 44; refine (BL.out _ (aj_d HA3.out)).mono ?_; rintro e w4 ⟨rfl, hd4, ho4⟩; have HA4 := Lib.hid (aj_dice HA3.out hd4 ho4); obtain ⟨e0, e1, e2, e3, e4, e5, e6, e7⟩ := aj_ws HA4.out; clear hd4 ho4 HA3))
  clear SM BL
  obtain ⟨⟨p0, q0⟩, ⟨p1, q1⟩, ⟨p2, q2⟩, ⟨p3, q3⟩, ⟨p4, q4⟩, ⟨p5, q5⟩, ⟨p6, q6⟩, ⟨p7, q7⟩⟩ := hall
  go_cut [8] (fun v8 wc => v8 = .int .i64 kk ∧ w4 = wc)
  case first =>
    go_wp2_with fail
    refine wp_loop_rounds 9 ?_
    repeat (any_goals (rw [rounds_succ]; go_wp2_with fail))
    all_goals first
      | (exfalso; omega)
      | (go_meet; refine ⟨?_, rfl⟩; rw [← HKK.out]; unfold kind8; repeat (first | rw [if_pos (by omega)] | rw [if_neg (by omega)]))
  obtain ⟨rfl, rfl⟩ := hcut
  have BL2 := Lib.hid (rbelow g xx 2 w4 hxl (by decide) (aj_d HA4.out))
  have hy : Live (lessS 2 xx) := lessS_live hxl
  generalize lessN 2 xx = who at BL2 HEA
  generalize lessS 2 xx = yy at BL2 HEA hy
  clear e0 e1 e2 e3 e4 e5 e6 e7 HKK
  rcases (show kk = 0 ∨ kk = 1 ∨ kk = 2 ∨ kk = 3 ∨ kk = 4 ∨ kk = 5 ∨ kk = 6 ∨ kk = 7 by omega) with rfl | rfl | rfl | rfl | rfl | rfl | rfl | rfl
  · have EE := Lib.hid (show fillN c0 0 who yy = (⟨0, who, 0, 0, (reqN c0 yy).1⟩, (reqN c0 yy).2) from if_pos rfl)
    have RQ := Lib.hid (fun W (hW : DAt 149 W g yy) => rrequest_c g yy c0 c1 c2 c3 c4 W hy HG.out hs hs2 hW)
    generalize reqN c0 yy = r at RQ EE
    go_wp2_with (first
      | (go_at_call 44; (with_reducible refine BL2.out.mono ?_); rintro e w5 ⟨rfl, hd5, ho5⟩; have HA5 := Lib.hid (aj_dice HA4.out hd5 ho5); have hz5 := (aj_alloc HA5.out (.cells #[.int .i64 0, .int .i64 who, .int .i64 0, .int .u64 0, .int .i64 0, .int .i64 0, .int .i64 0, .slice none 0 0] 107)).2.2.1; obtain ⟨m0, m1, m2, m3, m4, m5, m6, m7⟩ := fz8 hz5; obtain ⟨y0, y1, y2, y3, y4, y5, y6, y7⟩ := cl8 hz5; have f0 := (aj_cf (aj_alloc HA5.out (.cells #[.int .i64 0, .int .i64 who, .int .i64 0, .int .u64 0, .int .i64 0, .int .i64 0, .int .i64 0, .slice none 0 0] 107))).1; have f1 := (aj_cf (aj_alloc HA5.out (.cells #[.int .i64 0, .int .i64 who, .int .i64 0, .int .u64 0, .int .i64 0, .int .i64 0, .int .i64 0, .slice none 0 0] 107))).2.1; have f2 := (aj_cf (aj_alloc HA5.out (.cells #[.int .i64 0, .int .i64 who, .int .i64 0, .int .u64 0, .int .i64 0, .int .i64 0, .int .i64 0, .slice none 0 0] 107))).2.2.1; have f3 := (aj_cf (aj_alloc HA5.out (.cells #[.int .i64 0, .int .i64 who, .int .i64 0, .int .u64 0, .int .i64 0, .int .i64 0, .int .i64 0, .slice none 0 0] 107))).2.2.2.1; have f4 := (aj_cf (aj_alloc HA5.out (.cells #[.int .i64 0, .int .i64 who, .int .i64 0, .int .u64 0, .int .i64 0, .int .i64 0, .int .i64 0, .slice none 0 0] 107))).2.2.2.2; clear hd5 ho5 hz5)
      | (go_at_call 49; (refine (RQ.out _ (aj_d (aj_alloc HA5.out (.cells #[.int .i64 0, .int .i64 who, .int .i64 0, .int .u64 0, .int .i64 0, .int .i64 0, .int .i64 0, .slice none 0 0] 107)))).mono ?_); rintro e w6 ⟨v6, rfl, hr6, hd6, ho6⟩; obtain ⟨A6, c6, rfl⟩ := Kd.R_slice hr6; have HR6 := Lib.hid hr6; clear hr6; have HA6 := Lib.hid (aj_dice (aj_alloc HA5.out (.cells #[.int .i64 0, .int .i64 who, .int .i64 0, .int .u64 0, .int .i64 0, .int .i64 0, .int .i64 0, .slice none 0 0] 107)) hd6 ho6); have hgl := HA5.out.2.2.2.2.2; have hql := aj_lt HA5.out; have HB6 := Lib.hid (blk_only (S := fun k => k = g) (new_at w5 (.cells #[.int .i64 0, .int .i64 who, .int .i64 0, .int .u64 0, .int .i64 0, .int .i64 0, .int .i64 0, .slice none 0 0] 107)) ho6 (fun (he : w5.heap.size = g) => by omega)); clear m0 m1 m2 m3 m4 m5 m6 m7 y0 y1 y2 y3 y4 y5 y6 y7 f0 f1 f2 f3 f4 hd6 ho6; obtain ⟨m0, m1, m2, m3, m4, m5, m6, m7⟩ := fz8 HA6.out.2.2.1; obtain ⟨y0, y1, y2, y3, y4, y5, y6, y7⟩ := cl8 HA6.out.2.2.1; obtain ⟨k0, k1, k2, k3, k4, k5, k6, k7⟩ := cl8 HB6.out; obtain ⟨z0, z1, z2, z3, z4, z5, z6, z7⟩ := fz8 HB6.out))
    have hwb : w.heap.size ≤ w5.heap.size := by have := HQ.out; omega
    have hs0 := aj_set HA6.out (p := ⟨w5.heap.size, 4, none⟩) hql hwb (.int .i64 r.1.kd)
    have hs1 := aj_set hs0 (p := ⟨w5.heap.size, 5, none⟩) hql hwb (.int .i64 r.1.off)
    have hs2 := aj_set hs1 (p := ⟨w5.heap.size, 6, none⟩) hql hwb (.int .i64 r.1.len)
    have hs3 := aj_set hs2 (p := ⟨w5.heap.size, 7, none⟩) hql hwb (.slice A6 r.1.data.length c6)
    refine bodyPost_ret (results_cell_row rfl _ _ (q + 1 + 1) 107 #[.int .i64 0, .int .i64 who, .int .i64 0, .int .u64 0, .int .i64 r.1.kd, .int .i64 r.1.off, .int .i64 r.1.len, .slice A6 r.1.data.length c6] (0, 0) _ rfl (set8 hs3.2.2.1) Try.underlying107 rfl (by kernel_rfl)) rfl ?_
    show ActQ 149 w g (actN c0 a0 a1 a2 a3 a4 a5 a6 a7 x) _ _
    rw [HEA.out, EE.out]
    exact ract0_end HQ.out hql (by rw [World.size_alloc]; exact Nat.lt_succ_self _) HR6.out hs3
  · have EE := Lib.hid (show fillN c0 1 who yy = (⟨1, who, 0, 0, rq0⟩, yy) from rfl)
    go_wp2_with (first
      | (go_at_call 44; (with_reducible refine BL2.out.mono ?_); rintro e w5 ⟨rfl, hd5, ho5⟩; have HA5 := Lib.hid (aj_dice HA4.out hd5 ho5); have hz5 := (aj_alloc HA5.out (.cells #[.int .i64 1, .int .i64 who, .int .i64 0, .int .u64 0, .int .i64 0, .int .i64 0, .int .i64 0, .slice none 0 0] 107)).2.2.1; obtain ⟨m0, m1, m2, m3, m4, m5, m6, m7⟩ := fz8 hz5; obtain ⟨y0, y1, y2, y3, y4, y5, y6, y7⟩ := cl8 hz5; have f0 := (aj_cf (aj_alloc HA5.out (.cells #[.int .i64 1, .int .i64 who, .int .i64 0, .int .u64 0, .int .i64 0, .int .i64 0, .int .i64 0, .slice none 0 0] 107))).1; have f1 := (aj_cf (aj_alloc HA5.out (.cells #[.int .i64 1, .int .i64 who, .int .i64 0, .int .u64 0, .int .i64 0, .int .i64 0, .int .i64 0, .slice none 0 0] 107))).2.1; have f2 := (aj_cf (aj_alloc HA5.out (.cells #[.int .i64 1, .int .i64 who, .int .i64 0, .int .u64 0, .int .i64 0, .int .i64 0, .int .i64 0, .slice none 0 0] 107))).2.2.1; have f3 := (aj_cf (aj_alloc HA5.out (.cells #[.int .i64 1, .int .i64 who, .int .i64 0, .int .u64 0, .int .i64 0, .int .i64 0, .int .i64 0, .slice none 0 0] 107))).2.2.2.1; have f4 := (aj_cf (aj_alloc HA5.out (.cells #[.int .i64 1, .int .i64 who, .int .i64 0, .int .u64 0, .int .i64 0, .int .i64 0, .int .i64 0, .slice none 0 0] 107))).2.2.2.2; clear hd5 ho5 hz5))
    refine bodyPost_ret (results_cell_row rfl _ _ (q + 1 + 1) 107 #[.int .i64 1, .int .i64 who, .int .i64 0, .int .u64 0, .int .i64 0, .int .i64 0, .int .i64 0, .slice none 0 0] (0, 0) _ rfl (set8 (aj_alloc HA5.out (.cells #[.int .i64 1, .int .i64 who, .int .i64 0, .int .u64 0, .int .i64 0, .int .i64 0, .int .i64 0, .slice none 0 0] 107)).2.2.1) Try.underlying107 rfl (by kernel_rfl)) rfl ?_
    show ActQ 149 w g (actN c0 a0 a1 a2 a3 a4 a5 a6 a7 x) _ _
    rw [HEA.out, EE.out]
    have o8 := only8 (w5.alloc (.cells #[.int .i64 1, .int .i64 who, .int .i64 0, .int .u64 0, .int .i64 0, .int .i64 0, .int .i64 0, .slice none 0 0] 107)) (q + 1 + 1) (.int .i64 1) (.int .i64 who) (.int .i64 0) (.int .u64 0) (.int .i64 0) (.int .i64 0) (.int .i64 0) (.slice none 0 0)
    have hgq := (aj_alloc HA5.out (.cells #[.int .i64 1, .int .i64 who, .int .i64 0, .int .u64 0, .int .i64 0, .int .i64 0, .int .i64 0, .slice none 0 0] 107)).2.2.2.2.2
    exact ⟨_, rfl, Kd.R_nil _ _ _ _ _, d_only (aj_d (aj_alloc HA5.out (.cells #[.int .i64 1, .int .i64 who, .int .i64 0, .int .u64 0, .int .i64 0, .int .i64 0, .int .i64 0, .slice none 0 0] 107))) o8 (fun he => by omega), ((aj_alloc HA5.out (.cells #[.int .i64 1, .int .i64 who, .int .i64 0, .int .u64 0, .int .i64 0, .int .i64 0, .int .i64 0, .slice none 0 0] 107)).2.2.2.2.1).trans o8 (fun k hk => .inr (by have := HQ.out; omega))⟩
  · have EE := Lib.hid (show fillN c0 2 who yy = (⟨2, who, lessN 4 yy, 0, rq0⟩, lessS 4 yy) from rfl)
    have BK := Lib.hid (fun W (hW : DAt 149 W g yy) => rbelow g yy 4 W hy (by decide) hW)
    generalize lessN 4 yy = t at BK EE
    generalize lessS 4 yy = zz at BK EE
    go_wp2_with (first
      | (go_at_call 44; (with_reducible refine BL2.out.mono ?_); rintro e w5 ⟨rfl, hd5, ho5⟩; have HA5 := Lib.hid (aj_dice HA4.out hd5 ho5); have hz5 := (aj_alloc HA5.out (.cells #[.int .i64 2, .int .i64 who, .int .i64 0, .int .u64 0, .int .i64 0, .int .i64 0, .int .i64 0, .slice none 0 0] 107)).2.2.1; obtain ⟨m0, m1, m2, m3, m4, m5, m6, m7⟩ := fz8 hz5; obtain ⟨y0, y1, y2, y3, y4, y5, y6, y7⟩ := cl8 hz5; have f0 := (aj_cf (aj_alloc HA5.out (.cells #[.int .i64 2, .int .i64 who, .int .i64 0, .int .u64 0, .int .i64 0, .int .i64 0, .int .i64 0, .slice none 0 0] 107))).1; have f1 := (aj_cf (aj_alloc HA5.out (.cells #[.int .i64 2, .int .i64 who, .int .i64 0, .int .u64 0, .int .i64 0, .int .i64 0, .int .i64 0, .slice none 0 0] 107))).2.1; have f2 := (aj_cf (aj_alloc HA5.out (.cells #[.int .i64 2, .int .i64 who, .int .i64 0, .int .u64 0, .int .i64 0, .int .i64 0, .int .i64 0, .slice none 0 0] 107))).2.2.1; have f3 := (aj_cf (aj_alloc HA5.out (.cells #[.int .i64 2, .int .i64 who, .int .i64 0, .int .u64 0, .int .i64 0, .int .i64 0, .int .i64 0, .slice none 0 0] 107))).2.2.2.1; have f4 := (aj_cf (aj_alloc HA5.out (.cells #[.int .i64 2, .int .i64 who, .int .i64 0, .int .u64 0, .int .i64 0, .int .i64 0, .int .i64 0, .slice none 0 0] 107))).2.2.2.2; clear hd5 ho5 hz5)
      | (go_at_call 44; (refine (BK.out _ (aj_d (aj_alloc HA5.out (.cells #[.int .i64 2, .int .i64 who, .int .i64 0, .int .u64 0, .int .i64 0, .int .i64 0, .int .i64 0, .slice none 0 0] 107)))).mono ?_); rintro e w6 ⟨rfl, hd6, ho6⟩; have HA6 := Lib.hid (aj_dice (aj_alloc HA5.out (.cells #[.int .i64 2, .int .i64 who, .int .i64 0, .int .u64 0, .int .i64 0, .int .i64 0, .int .i64 0, .slice none 0 0] 107)) hd6 ho6); have hgl := HA5.out.2.2.2.2.2; have hql := aj_lt HA5.out; have HB6 := Lib.hid (blk_only (S := fun k => k = g) (new_at w5 (.cells #[.int .i64 2, .int .i64 who, .int .i64 0, .int .u64 0, .int .i64 0, .int .i64 0, .int .i64 0, .slice none 0 0] 107)) ho6 (fun (he : w5.heap.size = g) => by omega)); clear m0 m1 m2 m3 m4 m5 m6 m7 y0 y1 y2 y3 y4 y5 y6 y7 f0 f1 f2 f3 f4 hd6 ho6; obtain ⟨m0, m1, m2, m3, m4, m5, m6, m7⟩ := fz8 HA6.out.2.2.1; obtain ⟨y0, y1, y2, y3, y4, y5, y6, y7⟩ := cl8 HA6.out.2.2.1; obtain ⟨k0, k1, k2, k3, k4, k5, k6, k7⟩ := cl8 HB6.out; obtain ⟨z0, z1, z2, z3, z4, z5, z6, z7⟩ := fz8 HB6.out))
    have hwb : w.heap.size ≤ w5.heap.size := by have := HQ.out; omega
    refine bodyPost_ret (results_cell_row rfl _ _ (q + 1 + 1) 107 #[.int .i64 2, .int .i64 who, .int .i64 t, .int .u64 0, .int .i64 0, .int .i64 0, .int .i64 0, .slice none 0 0] (0, 0) _ rfl (set8 (aj_set HA6.out (p := ⟨w5.heap.size, 2, none⟩) hql hwb (.int .i64 t)).2.2.1) Try.underlying107 rfl (by kernel_rfl)) rfl ?_
    show ActQ 149 w g (actN c0 a0 a1 a2 a3 a4 a5 a6 a7 x) _ _
    rw [HEA.out, EE.out]
    have o8 := only8 (w6.setCell ⟨w5.heap.size, 2, none⟩ (.int .i64 t)) (q + 1 + 1) (.int .i64 2) (.int .i64 who) (.int .i64 t) (.int .u64 0) (.int .i64 0) (.int .i64 0) (.int .i64 0) (.slice none 0 0)
    have hgq := (aj_set HA6.out (p := ⟨w5.heap.size, 2, none⟩) hql hwb (.int .i64 t)).2.2.2.2.2
    exact ⟨_, rfl, Kd.R_nil _ _ _ _ _, d_only (aj_d (aj_set HA6.out (p := ⟨w5.heap.size, 2, none⟩) hql hwb (.int .i64 t))) o8 (fun he => by omega), ((aj_set HA6.out (p := ⟨w5.heap.size, 2, none⟩) hql hwb (.int .i64 t)).2.2.2.2.1).trans o8 (fun k hk => .inr (by have := HQ.out; omega))⟩
  · have EE := Lib.hid (show fillN c0 3 who yy = (⟨3, who, lessN 4 yy, 0, rq0⟩, lessS 4 yy) from rfl)
    have BK := Lib.hid (fun W (hW : DAt 149 W g yy) => rbelow g yy 4 W hy (by decide) hW)
    generalize lessN 4 yy = t at BK EE
    generalize lessS 4 yy = zz at BK EE
    go_wp2_with (first
      | (go_at_call 44; (with_reducible refine BL2.out.mono ?_); rintro e w5 ⟨rfl, hd5, ho5⟩; have HA5 := Lib.hid (aj_dice HA4.out hd5 ho5); have hz5 := (aj_alloc HA5.out (.cells #[.int .i64 3, .int .i64 who, .int .i64 0, .int .u64 0, .int .i64 0, .int .i64 0, .int .i64 0, .slice none 0 0] 107)).2.2.1; obtain ⟨m0, m1, m2, m3, m4, m5, m6, m7⟩ := fz8 hz5; obtain ⟨y0, y1, y2, y3, y4, y5, y6, y7⟩ := cl8 hz5; have f0 := (aj_cf (aj_alloc HA5.out (.cells #[.int .i64 3, .int .i64 who, .int .i64 0, .int .u64 0, .int .i64 0, .int .i64 0, .int .i64 0, .slice none 0 0] 107))).1; have f1 := (aj_cf (aj_alloc HA5.out (.cells #[.int .i64 3, .int .i64 who, .int .i64 0, .int .u64 0, .int .i64 0, .int .i64 0, .int .i64 0, .slice none 0 0] 107))).2.1; have f2 := (aj_cf (aj_alloc HA5.out (.cells #[.int .i64 3, .int .i64 who, .int .i64 0, .int .u64 0, .int .i64 0, .int .i64 0, .int .i64 0, .slice none 0 0] 107))).2.2.1; have f3 := (aj_cf (aj_alloc HA5.out (.cells #[.int .i64 3, .int .i64 who, .int .i64 0, .int .u64 0, .int .i64 0, .int .i64 0, .int .i64 0, .slice none 0 0] 107))).2.2.2.1; have f4 := (aj_cf (aj_alloc HA5.out (.cells #[.int .i64 3, .int .i64 who, .int .i64 0, .int .u64 0, .int .i64 0, .int .i64 0, .int .i64 0, .slice none 0 0] 107))).2.2.2.2; clear hd5 ho5 hz5)
      | (go_at_call 44; (refine (BK.out _ (aj_d (aj_alloc HA5.out (.cells #[.int .i64 3, .int .i64 who, .int .i64 0, .int .u64 0, .int .i64 0, .int .i64 0, .int .i64 0, .slice none 0 0] 107)))).mono ?_); rintro e w6 ⟨rfl, hd6, ho6⟩; have HA6 := Lib.hid (aj_dice (aj_alloc HA5.out (.cells #[.int .i64 3, .int .i64 who, .int .i64 0, .int .u64 0, .int .i64 0, .int .i64 0, .int .i64 0, .slice none 0 0] 107)) hd6 ho6); have hgl := HA5.out.2.2.2.2.2; have hql := aj_lt HA5.out; have HB6 := Lib.hid (blk_only (S := fun k => k = g) (new_at w5 (.cells #[.int .i64 3, .int .i64 who, .int .i64 0, .int .u64 0, .int .i64 0, .int .i64 0, .int .i64 0, .slice none 0 0] 107)) ho6 (fun (he : w5.heap.size = g) => by omega)); clear m0 m1 m2 m3 m4 m5 m6 m7 y0 y1 y2 y3 y4 y5 y6 y7 f0 f1 f2 f3 f4 hd6 ho6; obtain ⟨m0, m1, m2, m3, m4, m5, m6, m7⟩ := fz8 HA6.out.2.2.1; obtain ⟨y0, y1, y2, y3, y4, y5, y6, y7⟩ := cl8 HA6.out.2.2.1; obtain ⟨k0, k1, k2, k3, k4, k5, k6, k7⟩ := cl8 HB6.out; obtain ⟨z0, z1, z2, z3, z4, z5, z6, z7⟩ := fz8 HB6.out))
    have hwb : w.heap.size ≤ w5.heap.size := by have := HQ.out; omega
    refine bodyPost_ret (results_cell_row rfl _ _ (q + 1 + 1) 107 #[.int .i64 3, .int .i64 who, .int .i64 t, .int .u64 0, .int .i64 0, .int .i64 0, .int .i64 0, .slice none 0 0] (0, 0) _ rfl (set8 (aj_set HA6.out (p := ⟨w5.heap.size, 2, none⟩) hql hwb (.int .i64 t)).2.2.1) Try.underlying107 rfl (by kernel_rfl)) rfl ?_
    show ActQ 149 w g (actN c0 a0 a1 a2 a3 a4 a5 a6 a7 x) _ _
    rw [HEA.out, EE.out]
    have o8 := only8 (w6.setCell ⟨w5.heap.size, 2, none⟩ (.int .i64 t)) (q + 1 + 1) (.int .i64 3) (.int .i64 who) (.int .i64 t) (.int .u64 0) (.int .i64 0) (.int .i64 0) (.int .i64 0) (.slice none 0 0)
    have hgq := (aj_set HA6.out (p := ⟨w5.heap.size, 2, none⟩) hql hwb (.int .i64 t)).2.2.2.2.2
    exact ⟨_, rfl, Kd.R_nil _ _ _ _ _, d_only (aj_d (aj_set HA6.out (p := ⟨w5.heap.size, 2, none⟩) hql hwb (.int .i64 t))) o8 (fun he => by omega), ((aj_set HA6.out (p := ⟨w5.heap.size, 2, none⟩) hql hwb (.int .i64 t)).2.2.2.2.1).trans o8 (fun k hk => .inr (by have := HQ.out; omega))⟩
  · have EE := Lib.hid (show fillN c0 4 who yy = (⟨4, who, lessN 4 yy, 0, rq0⟩, lessS 4 yy) from rfl)
    have BK := Lib.hid (fun W (hW : DAt 149 W g yy) => rbelow g yy 4 W hy (by decide) hW)
    generalize lessN 4 yy = t at BK EE
    generalize lessS 4 yy = zz at BK EE
    go_wp2_with (first
      | (go_at_call 44; (with_reducible refine BL2.out.mono ?_); rintro e w5 ⟨rfl, hd5, ho5⟩; have HA5 := Lib.hid (aj_dice HA4.out hd5 ho5); have hz5 := (aj_alloc HA5.out (.cells #[.int .i64 4, .int .i64 who, .int .i64 0, .int .u64 0, .int .i64 0, .int .i64 0, .int .i64 0, .slice none 0 0] 107)).2.2.1; obtain ⟨m0, m1, m2, m3, m4, m5, m6, m7⟩ := fz8 hz5; obtain ⟨y0, y1, y2, y3, y4, y5, y6, y7⟩ := cl8 hz5; have f0 := (aj_cf (aj_alloc HA5.out (.cells #[.int .i64 4, .int .i64 who, .int .i64 0, .int .u64 0, .int .i64 0, .int .i64 0, .int .i64 0, .slice none 0 0] 107))).1; have f1 := (aj_cf (aj_alloc HA5.out (.cells #[.int .i64 4, .int .i64 who, .int .i64 0, .int .u64 0, .int .i64 0, .int .i64 0, .int .i64 0, .slice none 0 0] 107))).2.1; have f2 := (aj_cf (aj_alloc HA5.out (.cells #[.int .i64 4, .int .i64 who, .int .i64 0, .int .u64 0, .int .i64 0, .int .i64 0, .int .i64 0, .slice none 0 0] 107))).2.2.1; have f3 := (aj_cf (aj_alloc HA5.out (.cells #[.int .i64 4, .int .i64 who, .int .i64 0, .int .u64 0, .int .i64 0, .int .i64 0, .int .i64 0, .slice none 0 0] 107))).2.2.2.1; have f4 := (aj_cf (aj_alloc HA5.out (.cells #[.int .i64 4, .int .i64 who, .int .i64 0, .int .u64 0, .int .i64 0, .int .i64 0, .int .i64 0, .slice none 0 0] 107))).2.2.2.2; clear hd5 ho5 hz5)
      | (go_at_call 44; (refine (BK.out _ (aj_d (aj_alloc HA5.out (.cells #[.int .i64 4, .int .i64 who, .int .i64 0, .int .u64 0, .int .i64 0, .int .i64 0, .int .i64 0, .slice none 0 0] 107)))).mono ?_); rintro e w6 ⟨rfl, hd6, ho6⟩; have HA6 := Lib.hid (aj_dice (aj_alloc HA5.out (.cells #[.int .i64 4, .int .i64 who, .int .i64 0, .int .u64 0, .int .i64 0, .int .i64 0, .int .i64 0, .slice none 0 0] 107)) hd6 ho6); have hgl := HA5.out.2.2.2.2.2; have hql := aj_lt HA5.out; have HB6 := Lib.hid (blk_only (S := fun k => k = g) (new_at w5 (.cells #[.int .i64 4, .int .i64 who, .int .i64 0, .int .u64 0, .int .i64 0, .int .i64 0, .int .i64 0, .slice none 0 0] 107)) ho6 (fun (he : w5.heap.size = g) => by omega)); clear m0 m1 m2 m3 m4 m5 m6 m7 y0 y1 y2 y3 y4 y5 y6 y7 f0 f1 f2 f3 f4 hd6 ho6; obtain ⟨m0, m1, m2, m3, m4, m5, m6, m7⟩ := fz8 HA6.out.2.2.1; obtain ⟨y0, y1, y2, y3, y4, y5, y6, y7⟩ := cl8 HA6.out.2.2.1; obtain ⟨k0, k1, k2, k3, k4, k5, k6, k7⟩ := cl8 HB6.out; obtain ⟨z0, z1, z2, z3, z4, z5, z6, z7⟩ := fz8 HB6.out))
    have hwb : w.heap.size ≤ w5.heap.size := by have := HQ.out; omega
    refine bodyPost_ret (results_cell_row rfl _ _ (q + 1 + 1) 107 #[.int .i64 4, .int .i64 who, .int .i64 t, .int .u64 0, .int .i64 0, .int .i64 0, .int .i64 0, .slice none 0 0] (0, 0) _ rfl (set8 (aj_set HA6.out (p := ⟨w5.heap.size, 2, none⟩) hql hwb (.int .i64 t)).2.2.1) Try.underlying107 rfl (by kernel_rfl)) rfl ?_
    show ActQ 149 w g (actN c0 a0 a1 a2 a3 a4 a5 a6 a7 x) _ _
    rw [HEA.out, EE.out]
    have o8 := only8 (w6.setCell ⟨w5.heap.size, 2, none⟩ (.int .i64 t)) (q + 1 + 1) (.int .i64 4) (.int .i64 who) (.int .i64 t) (.int .u64 0) (.int .i64 0) (.int .i64 0) (.int .i64 0) (.slice none 0 0)
    have hgq := (aj_set HA6.out (p := ⟨w5.heap.size, 2, none⟩) hql hwb (.int .i64 t)).2.2.2.2.2
    exact ⟨_, rfl, Kd.R_nil _ _ _ _ _, d_only (aj_d (aj_set HA6.out (p := ⟨w5.heap.size, 2, none⟩) hql hwb (.int .i64 t))) o8 (fun he => by omega), ((aj_set HA6.out (p := ⟨w5.heap.size, 2, none⟩) hql hwb (.int .i64 t)).2.2.2.2.1).trans o8 (fun k hk => .inr (by have := HQ.out; omega))⟩
  · have EE := Lib.hid (show fillN c0 5 who yy = (⟨5, who, 0, 0, rq0⟩, yy) from rfl)
    go_wp2_with (first
      | (go_at_call 44; (with_reducible refine BL2.out.mono ?_); rintro e w5 ⟨rfl, hd5, ho5⟩; have HA5 := Lib.hid (aj_dice HA4.out hd5 ho5); have hz5 := (aj_alloc HA5.out (.cells #[.int .i64 5, .int .i64 who, .int .i64 0, .int .u64 0, .int .i64 0, .int .i64 0, .int .i64 0, .slice none 0 0] 107)).2.2.1; obtain ⟨m0, m1, m2, m3, m4, m5, m6, m7⟩ := fz8 hz5; obtain ⟨y0, y1, y2, y3, y4, y5, y6, y7⟩ := cl8 hz5; have f0 := (aj_cf (aj_alloc HA5.out (.cells #[.int .i64 5, .int .i64 who, .int .i64 0, .int .u64 0, .int .i64 0, .int .i64 0, .int .i64 0, .slice none 0 0] 107))).1; have f1 := (aj_cf (aj_alloc HA5.out (.cells #[.int .i64 5, .int .i64 who, .int .i64 0, .int .u64 0, .int .i64 0, .int .i64 0, .int .i64 0, .slice none 0 0] 107))).2.1; have f2 := (aj_cf (aj_alloc HA5.out (.cells #[.int .i64 5, .int .i64 who, .int .i64 0, .int .u64 0, .int .i64 0, .int .i64 0, .int .i64 0, .slice none 0 0] 107))).2.2.1; have f3 := (aj_cf (aj_alloc HA5.out (.cells #[.int .i64 5, .int .i64 who, .int .i64 0, .int .u64 0, .int .i64 0, .int .i64 0, .int .i64 0, .slice none 0 0] 107))).2.2.2.1; have f4 := (aj_cf (aj_alloc HA5.out (.cells #[.int .i64 5, .int .i64 who, .int .i64 0, .int .u64 0, .int .i64 0, .int .i64 0, .int .i64 0, .slice none 0 0] 107))).2.2.2.2; clear hd5 ho5 hz5))
    refine bodyPost_ret (results_cell_row rfl _ _ (q + 1 + 1) 107 #[.int .i64 5, .int .i64 who, .int .i64 0, .int .u64 0, .int .i64 0, .int .i64 0, .int .i64 0, .slice none 0 0] (0, 0) _ rfl (set8 (aj_alloc HA5.out (.cells #[.int .i64 5, .int .i64 who, .int .i64 0, .int .u64 0, .int .i64 0, .int .i64 0, .int .i64 0, .slice none 0 0] 107)).2.2.1) Try.underlying107 rfl (by kernel_rfl)) rfl ?_
    show ActQ 149 w g (actN c0 a0 a1 a2 a3 a4 a5 a6 a7 x) _ _
    rw [HEA.out, EE.out]
    have o8 := only8 (w5.alloc (.cells #[.int .i64 5, .int .i64 who, .int .i64 0, .int .u64 0, .int .i64 0, .int .i64 0, .int .i64 0, .slice none 0 0] 107)) (q + 1 + 1) (.int .i64 5) (.int .i64 who) (.int .i64 0) (.int .u64 0) (.int .i64 0) (.int .i64 0) (.int .i64 0) (.slice none 0 0)
    have hgq := (aj_alloc HA5.out (.cells #[.int .i64 5, .int .i64 who, .int .i64 0, .int .u64 0, .int .i64 0, .int .i64 0, .int .i64 0, .slice none 0 0] 107)).2.2.2.2.2
    exact ⟨_, rfl, Kd.R_nil _ _ _ _ _, d_only (aj_d (aj_alloc HA5.out (.cells #[.int .i64 5, .int .i64 who, .int .i64 0, .int .u64 0, .int .i64 0, .int .i64 0, .int .i64 0, .slice none 0 0] 107))) o8 (fun he => by omega), ((aj_alloc HA5.out (.cells #[.int .i64 5, .int .i64 who, .int .i64 0, .int .u64 0, .int .i64 0, .int .i64 0, .int .i64 0, .slice none 0 0] 107)).2.2.2.2.1).trans o8 (fun k hk => .inr (by have := HQ.out; omega))⟩
  · have EE := Lib.hid (show fillN c0 6 who yy = (⟨6, who, 0, outN yy, rq0⟩, stepN yy) from rfl)
    have NX := Lib.hid (fun W (hW : DAt 149 W g yy) => rnext g yy W hy hW)
    generalize (outN yy : Int) = t at NX EE
    generalize stepN yy = zz at NX EE
    go_wp2_with (first
      | (go_at_call 44; (with_reducible refine BL2.out.mono ?_); rintro e w5 ⟨rfl, hd5, ho5⟩; have HA5 := Lib.hid (aj_dice HA4.out hd5 ho5); have hz5 := (aj_alloc HA5.out (.cells #[.int .i64 6, .int .i64 who, .int .i64 0, .int .u64 0, .int .i64 0, .int .i64 0, .int .i64 0, .slice none 0 0] 107)).2.2.1; obtain ⟨m0, m1, m2, m3, m4, m5, m6, m7⟩ := fz8 hz5; obtain ⟨y0, y1, y2, y3, y4, y5, y6, y7⟩ := cl8 hz5; have f0 := (aj_cf (aj_alloc HA5.out (.cells #[.int .i64 6, .int .i64 who, .int .i64 0, .int .u64 0, .int .i64 0, .int .i64 0, .int .i64 0, .slice none 0 0] 107))).1; have f1 := (aj_cf (aj_alloc HA5.out (.cells #[.int .i64 6, .int .i64 who, .int .i64 0, .int .u64 0, .int .i64 0, .int .i64 0, .int .i64 0, .slice none 0 0] 107))).2.1; have f2 := (aj_cf (aj_alloc HA5.out (.cells #[.int .i64 6, .int .i64 who, .int .i64 0, .int .u64 0, .int .i64 0, .int .i64 0, .int .i64 0, .slice none 0 0] 107))).2.2.1; have f3 := (aj_cf (aj_alloc HA5.out (.cells #[.int .i64 6, .int .i64 who, .int .i64 0, .int .u64 0, .int .i64 0, .int .i64 0, .int .i64 0, .slice none 0 0] 107))).2.2.2.1; have f4 := (aj_cf (aj_alloc HA5.out (.cells #[.int .i64 6, .int .i64 who, .int .i64 0, .int .u64 0, .int .i64 0, .int .i64 0, .int .i64 0, .slice none 0 0] 107))).2.2.2.2; clear hd5 ho5 hz5)
      | (go_at_call 46; (refine (NX.out _ (aj_d (aj_alloc HA5.out (.cells #[.int .i64 6, .int .i64 who, .int .i64 0, .int .u64 0, .int .i64 0, .int .i64 0, .int .i64 0, .slice none 0 0] 107)))).mono ?_); rintro e w6 ⟨rfl, hd6, ho6⟩; have HA6 := Lib.hid (aj_dice (aj_alloc HA5.out (.cells #[.int .i64 6, .int .i64 who, .int .i64 0, .int .u64 0, .int .i64 0, .int .i64 0, .int .i64 0, .slice none 0 0] 107)) hd6 ho6); have hgl := HA5.out.2.2.2.2.2; have hql := aj_lt HA5.out; have HB6 := Lib.hid (blk_only (S := fun k => k = g) (new_at w5 (.cells #[.int .i64 6, .int .i64 who, .int .i64 0, .int .u64 0, .int .i64 0, .int .i64 0, .int .i64 0, .slice none 0 0] 107)) ho6 (fun (he : w5.heap.size = g) => by omega)); clear m0 m1 m2 m3 m4 m5 m6 m7 y0 y1 y2 y3 y4 y5 y6 y7 f0 f1 f2 f3 f4 hd6 ho6; obtain ⟨m0, m1, m2, m3, m4, m5, m6, m7⟩ := fz8 HA6.out.2.2.1; obtain ⟨y0, y1, y2, y3, y4, y5, y6, y7⟩ := cl8 HA6.out.2.2.1; obtain ⟨k0, k1, k2, k3, k4, k5, k6, k7⟩ := cl8 HB6.out; obtain ⟨z0, z1, z2, z3, z4, z5, z6, z7⟩ := fz8 HB6.out))
    have hwb : w.heap.size ≤ w5.heap.size := by have := HQ.out; omega
    refine bodyPost_ret (results_cell_row rfl _ _ (q + 1 + 1) 107 #[.int .i64 6, .int .i64 who, .int .i64 0, .int .u64 t, .int .i64 0, .int .i64 0, .int .i64 0, .slice none 0 0] (0, 0) _ rfl (set8 (aj_set HA6.out (p := ⟨w5.heap.size, 3, none⟩) hql hwb (.int .u64 t)).2.2.1) Try.underlying107 rfl (by kernel_rfl)) rfl ?_
    show ActQ 149 w g (actN c0 a0 a1 a2 a3 a4 a5 a6 a7 x) _ _
    rw [HEA.out, EE.out]
    have o8 := only8 (w6.setCell ⟨w5.heap.size, 3, none⟩ (.int .u64 t)) (q + 1 + 1) (.int .i64 6) (.int .i64 who) (.int .i64 0) (.int .u64 t) (.int .i64 0) (.int .i64 0) (.int .i64 0) (.slice none 0 0)
    have hgq := (aj_set HA6.out (p := ⟨w5.heap.size, 3, none⟩) hql hwb (.int .u64 t)).2.2.2.2.2
    exact ⟨_, rfl, Kd.R_nil _ _ _ _ _, d_only (aj_d (aj_set HA6.out (p := ⟨w5.heap.size, 3, none⟩) hql hwb (.int .u64 t))) o8 (fun he => by omega), ((aj_set HA6.out (p := ⟨w5.heap.size, 3, none⟩) hql hwb (.int .u64 t)).2.2.2.2.1).trans o8 (fun k hk => .inr (by have := HQ.out; omega))⟩
  · have EE := Lib.hid (show fillN c0 7 who yy = (⟨7, who, lessN 12 yy, outN (lessS 12 yy), rq0⟩, stepN (lessS 12 yy)) from rfl)
    have BK := Lib.hid (fun W (hW : DAt 149 W g yy) => rbelow g yy 12 W hy (by decide) hW)
    have hzl : Live (lessS 12 yy) := lessS_live hy
    generalize lessN 12 yy = t at BK EE
    generalize lessS 12 yy = zz at BK EE hzl
    have NX := Lib.hid (fun W (hW : DAt 149 W g zz) => rnext g zz W hzl hW)
    generalize (outN zz : Int) = u at NX EE
    generalize stepN zz = zs at NX EE
    go_wp2_with (first
      | (go_at_call 44; (with_reducible refine BL2.out.mono ?_); rintro e w5 ⟨rfl, hd5, ho5⟩; have HA5 := Lib.hid (aj_dice HA4.out hd5 ho5); have hz5 := (aj_alloc HA5.out (.cells #[.int .i64 7, .int .i64 who, .int .i64 0, .int .u64 0, .int .i64 0, .int .i64 0, .int .i64 0, .slice none 0 0] 107)).2.2.1; obtain ⟨m0, m1, m2, m3, m4, m5, m6, m7⟩ := fz8 hz5; obtain ⟨y0, y1, y2, y3, y4, y5, y6, y7⟩ := cl8 hz5; have f0 := (aj_cf (aj_alloc HA5.out (.cells #[.int .i64 7, .int .i64 who, .int .i64 0, .int .u64 0, .int .i64 0, .int .i64 0, .int .i64 0, .slice none 0 0] 107))).1; have f1 := (aj_cf (aj_alloc HA5.out (.cells #[.int .i64 7, .int .i64 who, .int .i64 0, .int .u64 0, .int .i64 0, .int .i64 0, .int .i64 0, .slice none 0 0] 107))).2.1; have f2 := (aj_cf (aj_alloc HA5.out (.cells #[.int .i64 7, .int .i64 who, .int .i64 0, .int .u64 0, .int .i64 0, .int .i64 0, .int .i64 0, .slice none 0 0] 107))).2.2.1; have f3 := (aj_cf (aj_alloc HA5.out (.cells #[.int .i64 7, .int .i64 who, .int .i64 0, .int .u64 0, .int .i64 0, .int .i64 0, .int .i64 0, .slice none 0 0] 107))).2.2.2.1; have f4 := (aj_cf (aj_alloc HA5.out (.cells #[.int .i64 7, .int .i64 who, .int .i64 0, .int .u64 0, .int .i64 0, .int .i64 0, .int .i64 0, .slice none 0 0] 107))).2.2.2.2; clear hd5 ho5 hz5)
      | (go_at_call 44; (refine (BK.out _ (aj_d (aj_alloc HA5.out (.cells #[.int .i64 7, .int .i64 who, .int .i64 0, .int .u64 0, .int .i64 0, .int .i64 0, .int .i64 0, .slice none 0 0] 107)))).mono ?_); rintro e w6 ⟨rfl, hd6, ho6⟩; have HA6 := Lib.hid (aj_dice (aj_alloc HA5.out (.cells #[.int .i64 7, .int .i64 who, .int .i64 0, .int .u64 0, .int .i64 0, .int .i64 0, .int .i64 0, .slice none 0 0] 107)) hd6 ho6); have hgl := HA5.out.2.2.2.2.2; have hql := aj_lt HA5.out; have HB6 := Lib.hid (blk_only (S := fun k => k = g) (new_at w5 (.cells #[.int .i64 7, .int .i64 who, .int .i64 0, .int .u64 0, .int .i64 0, .int .i64 0, .int .i64 0, .slice none 0 0] 107)) ho6 (fun (he : w5.heap.size = g) => by omega)); clear m0 m1 m2 m3 m4 m5 m6 m7 y0 y1 y2 y3 y4 y5 y6 y7 f0 f1 f2 f3 f4 hd6 ho6; obtain ⟨m0, m1, m2, m3, m4, m5, m6, m7⟩ := fz8 HA6.out.2.2.1; obtain ⟨y0, y1, y2, y3, y4, y5, y6, y7⟩ := cl8 HA6.out.2.2.1; obtain ⟨k0, k1, k2, k3, k4, k5, k6, k7⟩ := cl8 HB6.out; obtain ⟨z0, z1, z2, z3, z4, z5, z6, z7⟩ := fz8 HB6.out)
      | (go_at_call 46; (refine (NX.out _ (aj_d (aj_set HA6.out (p := ⟨w5.heap.size, 2, none⟩) hql (by have := HQ.out; show w.heap.size ≤ w5.heap.size; omega) (.int .i64 t)))).mono ?_); rintro e w7 ⟨rfl, hd7, ho7⟩; have HA7 := Lib.hid (aj_dice (aj_set HA6.out (p := ⟨w5.heap.size, 2, none⟩) hql (by have := HQ.out; show w.heap.size ≤ w5.heap.size; omega) (.int .i64 t)) hd7 ho7); have HB7 := Lib.hid (show w7.heap[w5.heap.size]? = some (.cells #[.int .i64 7, .int .i64 who, .int .i64 t, .int .u64 0, .int .i64 0, .int .i64 0, .int .i64 0, .slice none 0 0] 107 (0, 0)) from blk_only (S := fun k => k = g) (set_at HB6.out 2 (.int .i64 t)) ho7 (fun (he : w5.heap.size = g) => by omega)); clear m0 m1 m2 m3 m4 m5 m6 m7 y0 y1 y2 y3 y4 y5 y6 y7 k0 k1 k2 k3 k4 k5 k6 k7 z0 z1 z2 z3 z4 z5 z6 z7 hd7 ho7; obtain ⟨m0, m1, m2, m3, m4, m5, m6, m7⟩ := fz8 HA7.out.2.2.1; obtain ⟨y0, y1, y2, y3, y4, y5, y6, y7⟩ := cl8 HA7.out.2.2.1; obtain ⟨k0, k1, k2, k3, k4, k5, k6, k7⟩ := cl8 HB7.out; obtain ⟨z0, z1, z2, z3, z4, z5, z6, z7⟩ := fz8 HB7.out))
    have hwb : w.heap.size ≤ w5.heap.size := by have := HQ.out; omega
    refine bodyPost_ret (results_cell_row rfl _ _ (q + 1 + 1) 107 #[.int .i64 7, .int .i64 who, .int .i64 t, .int .u64 u, .int .i64 0, .int .i64 0, .int .i64 0, .slice none 0 0] (0, 0) _ rfl (set8 (aj_set HA7.out (p := ⟨w5.heap.size, 3, none⟩) hql hwb (.int .u64 u)).2.2.1) Try.underlying107 rfl (by kernel_rfl)) rfl ?_
    show ActQ 149 w g (actN c0 a0 a1 a2 a3 a4 a5 a6 a7 x) _ _
    rw [HEA.out, EE.out]
    have o8 := only8 (w7.setCell ⟨w5.heap.size, 3, none⟩ (.int .u64 u)) (q + 1 + 1) (.int .i64 7) (.int .i64 who) (.int .i64 t) (.int .u64 u) (.int .i64 0) (.int .i64 0) (.int .i64 0) (.slice none 0 0)
    have hgq := (aj_set HA7.out (p := ⟨w5.heap.size, 3, none⟩) hql hwb (.int .u64 u)).2.2.2.2.2
    exact ⟨_, rfl, Kd.R_nil _ _ _ _ _, d_only (aj_d (aj_set HA7.out (p := ⟨w5.heap.size, 3, none⟩) hql hwb (.int .u64 u))) o8 (fun he => by omega), ((aj_set HA7.out (p := ⟨w5.heap.size, 3, none⟩) hql hwb (.int .u64 u)).2.2.2.2.1).trans o8 (fun k hk => .inr (by have := HQ.out; omega))⟩
end Go.Proofs.Ytoobbolaoldacaa.DiceW
