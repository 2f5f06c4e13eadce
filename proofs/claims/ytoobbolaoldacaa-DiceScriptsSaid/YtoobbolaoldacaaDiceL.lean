/-
  Dice: what an act of its kind has beside; an act, the program's (printed by tools/mkdicel.py).
-/
import Derived.Test.YtoobbolaoldacaaDiceR
import Derived.Test.YtoobbolaoldacaaDiceH
namespace Go.Proofs.Ytoobbolaoldacaa.DiceW
open Go.RowKit Go.Proofs.Ytoobbolaoldacaa Go.Proofs.Ytoobbolaoldacaa.Dice Go.Proofs.Ytoobbolaoldacaa.DiceP Go.Proofs.Ytoobbolaoldacaa.RowOwn Go.Proofs.YtoobbolaoldacaaW.PrintWords Go.Proofs.YtoobbolaoldacaaW.PrintLast Go.Proofs.YtoobbolaoldacaaW.PrintMore
set_option linter.unusedVariables false
theorem only47 (W : World) (b : Nat) (v0 v1 v2 v3 : Value) : OnlyS (· = b) W ((((W.setCell ⟨b, 4, none⟩ v0).setCell ⟨b, 5, none⟩ v1).setCell ⟨b, 6, none⟩ v2).setCell ⟨b, 7, none⟩ v3) := by
  refine OnlyS.set (OnlyS.set (OnlyS.set (OnlyS.set (OnlyS.refl _ W) _ _ (.inl ?_)) _ _ (.inl ?_)) _ _ (.inl ?_)) _ _ (.inl ?_) <;> rfl
set_option maxRecDepth 20000 in
set_option maxHeartbeats 2000000 in
theorem fill_2 (g b x : Nat) (who c0 c1 c2 c3 c4 : Int) (W : World) (hl : Live x) (hgb : g < b) (hd : DAt 113 W g x) (hb : W.heap[b]? = some (.cells #[.int .i64 2, .int .i64 who, .int .i64 0, .int .u64 0, .int .i64 0, .int .i64 0, .int .i64 0, .slice none 0 0] 106 (0, 0))) :
    Calls Try.prog 89 #[.pointer (some ⟨g, 0, none⟩), .pointer (some ⟨b, 0, none⟩), Cf c0 c1 c2 c3 c4] W (FillQ W g b (fillN c0 2 who x)) := by
  have E : fillN c0 2 who x = (⟨2, who, lessN 4 x, 0, rq0⟩, lessS 4 x) := rfl
  have EE := Lib.hid E
  clear E
  have hbl := lt_at hb
  have hb1 := old_at hb (.cells #[.int .i64 c0, .int .i64 c1, .int .i64 c2, .int .i64 c3, .int .i64 c4] 92)
  have hc1 := new_at W (.cells #[.int .i64 c0, .int .i64 c1, .int .i64 c2, .int .i64 c3, .int .i64 c4] 92)
  have hd1 : DAt 113 (W.alloc (.cells #[.int .i64 c0, .int .i64 c1, .int .i64 c2, .int .i64 c3, .int .i64 c4] 92)) g x := old_at hd _
  have ho1 : OnlyS (fun k => k = g ∨ k = b) W (W.alloc (.cells #[.int .i64 c0, .int .i64 c1, .int .i64 c2, .int .i64 c3, .int .i64 c4] 92)) := (OnlyS.refl _ _).alloc _
  have HSZ := Lib.hid (World.size_alloc W (.cells #[.int .i64 c0, .int .i64 c1, .int .i64 c2, .int .i64 c3, .int .i64 c4] 92))
  have HB1 := Lib.hid hb1
  have HC1 := Lib.hid hc1
  have HD1 := Lib.hid hd1
  have HO1 := Lib.hid ho1
  clear hb hd hb1 hc1 hd1 ho1
  go_enter Try.func89, Try.ntmps89
  go_upto_region 1 with (fail)
  generalize W.alloc (.cells #[.int .i64 c0, .int .i64 c1, .int .i64 c2, .int .i64 c3, .int .i64 c4] 92) = W1 at HSZ HB1 HC1 HD1 HO1 ⊢
  obtain ⟨k0, k1, k2, k3, k4, k5, k6, k7⟩ := cl8 HB1.out
  obtain ⟨z0, z1, z2, z3, z4, z5, z6, z7⟩ := fz8 HB1.out
  have f0 := blk_cell HC1.out 0
  have f1 := blk_cell HC1.out 1
  have f2 := blk_cell HC1.out 2
  have f3 := blk_cell HC1.out 3
  have f4 := blk_cell HC1.out 4
  have BL := Lib.hid (below_yes g x 4 W1 hl (by decide) HD1.out)
  generalize lessN 4 x = t at BL EE
  generalize lessS 4 x = y at BL EE
  go_wp2_with (first
    | (go_at_call 43; (with_reducible refine BL.out.mono ?_); rintro e w4 ⟨rfl, hd4, ho4⟩; have HB4 := Lib.hid (blk_only (S := fun k => k = g) HB1.out ho4 (fun he => by omega)); have HD4 := Lib.hid hd4; have HO4 := Lib.hid ho4; clear k0 k1 k2 k3 k4 k5 k6 k7 z0 z1 z2 z3 z4 z5 z6 z7 f0 f1 f2 f3 f4 hd4 ho4; obtain ⟨k0, k1, k2, k3, k4, k5, k6, k7⟩ := cl8 HB4.out; obtain ⟨z0, z1, z2, z3, z4, z5, z6, z7⟩ := fz8 HB4.out))
  go_end0
  rw [EE.out]
  exact ⟨rfl, _, set_at HB4.out 2 _, Kd.R_nil _ _ _ _ _, far_at HD4.out (by show g ≠ b; omega) _, (HO1.out.trans HO4.out (fun k hk => .inl (.inl hk))).set _ _ (.inl (.inr rfl))⟩
set_option maxRecDepth 20000 in
set_option maxHeartbeats 2000000 in
theorem fill_3 (g b x : Nat) (who c0 c1 c2 c3 c4 : Int) (W : World) (hl : Live x) (hgb : g < b) (hd : DAt 113 W g x) (hb : W.heap[b]? = some (.cells #[.int .i64 3, .int .i64 who, .int .i64 0, .int .u64 0, .int .i64 0, .int .i64 0, .int .i64 0, .slice none 0 0] 106 (0, 0))) :
    Calls Try.prog 89 #[.pointer (some ⟨g, 0, none⟩), .pointer (some ⟨b, 0, none⟩), Cf c0 c1 c2 c3 c4] W (FillQ W g b (fillN c0 3 who x)) := by
  have E : fillN c0 3 who x = (⟨3, who, lessN 4 x, 0, rq0⟩, lessS 4 x) := rfl
  have EE := Lib.hid E
  clear E
  have hbl := lt_at hb
  have hb1 := old_at hb (.cells #[.int .i64 c0, .int .i64 c1, .int .i64 c2, .int .i64 c3, .int .i64 c4] 92)
  have hc1 := new_at W (.cells #[.int .i64 c0, .int .i64 c1, .int .i64 c2, .int .i64 c3, .int .i64 c4] 92)
  have hd1 : DAt 113 (W.alloc (.cells #[.int .i64 c0, .int .i64 c1, .int .i64 c2, .int .i64 c3, .int .i64 c4] 92)) g x := old_at hd _
  have ho1 : OnlyS (fun k => k = g ∨ k = b) W (W.alloc (.cells #[.int .i64 c0, .int .i64 c1, .int .i64 c2, .int .i64 c3, .int .i64 c4] 92)) := (OnlyS.refl _ _).alloc _
  have HSZ := Lib.hid (World.size_alloc W (.cells #[.int .i64 c0, .int .i64 c1, .int .i64 c2, .int .i64 c3, .int .i64 c4] 92))
  have HB1 := Lib.hid hb1
  have HC1 := Lib.hid hc1
  have HD1 := Lib.hid hd1
  have HO1 := Lib.hid ho1
  clear hb hd hb1 hc1 hd1 ho1
  go_enter Try.func89, Try.ntmps89
  go_upto_region 1 with (fail)
  generalize W.alloc (.cells #[.int .i64 c0, .int .i64 c1, .int .i64 c2, .int .i64 c3, .int .i64 c4] 92) = W1 at HSZ HB1 HC1 HD1 HO1 ⊢
  obtain ⟨k0, k1, k2, k3, k4, k5, k6, k7⟩ := cl8 HB1.out
  obtain ⟨z0, z1, z2, z3, z4, z5, z6, z7⟩ := fz8 HB1.out
  have f0 := blk_cell HC1.out 0
  have f1 := blk_cell HC1.out 1
  have f2 := blk_cell HC1.out 2
  have f3 := blk_cell HC1.out 3
  have f4 := blk_cell HC1.out 4
  have BL := Lib.hid (below_yes g x 4 W1 hl (by decide) HD1.out)
  generalize lessN 4 x = t at BL EE
  generalize lessS 4 x = y at BL EE
  go_wp2_with (first
    | (go_at_call 43; (with_reducible refine BL.out.mono ?_); rintro e w4 ⟨rfl, hd4, ho4⟩; have HB4 := Lib.hid (blk_only (S := fun k => k = g) HB1.out ho4 (fun he => by omega)); have HD4 := Lib.hid hd4; have HO4 := Lib.hid ho4; clear k0 k1 k2 k3 k4 k5 k6 k7 z0 z1 z2 z3 z4 z5 z6 z7 f0 f1 f2 f3 f4 hd4 ho4; obtain ⟨k0, k1, k2, k3, k4, k5, k6, k7⟩ := cl8 HB4.out; obtain ⟨z0, z1, z2, z3, z4, z5, z6, z7⟩ := fz8 HB4.out))
  go_end0
  rw [EE.out]
  exact ⟨rfl, _, set_at HB4.out 2 _, Kd.R_nil _ _ _ _ _, far_at HD4.out (by show g ≠ b; omega) _, (HO1.out.trans HO4.out (fun k hk => .inl (.inl hk))).set _ _ (.inl (.inr rfl))⟩
set_option maxRecDepth 20000 in
set_option maxHeartbeats 2000000 in
theorem fill_4 (g b x : Nat) (who c0 c1 c2 c3 c4 : Int) (W : World) (hl : Live x) (hgb : g < b) (hd : DAt 113 W g x) (hb : W.heap[b]? = some (.cells #[.int .i64 4, .int .i64 who, .int .i64 0, .int .u64 0, .int .i64 0, .int .i64 0, .int .i64 0, .slice none 0 0] 106 (0, 0))) :
    Calls Try.prog 89 #[.pointer (some ⟨g, 0, none⟩), .pointer (some ⟨b, 0, none⟩), Cf c0 c1 c2 c3 c4] W (FillQ W g b (fillN c0 4 who x)) := by
  have E : fillN c0 4 who x = (⟨4, who, lessN 4 x, 0, rq0⟩, lessS 4 x) := rfl
  have EE := Lib.hid E
  clear E
  have hbl := lt_at hb
  have hb1 := old_at hb (.cells #[.int .i64 c0, .int .i64 c1, .int .i64 c2, .int .i64 c3, .int .i64 c4] 92)
  have hc1 := new_at W (.cells #[.int .i64 c0, .int .i64 c1, .int .i64 c2, .int .i64 c3, .int .i64 c4] 92)
  have hd1 : DAt 113 (W.alloc (.cells #[.int .i64 c0, .int .i64 c1, .int .i64 c2, .int .i64 c3, .int .i64 c4] 92)) g x := old_at hd _
  have ho1 : OnlyS (fun k => k = g ∨ k = b) W (W.alloc (.cells #[.int .i64 c0, .int .i64 c1, .int .i64 c2, .int .i64 c3, .int .i64 c4] 92)) := (OnlyS.refl _ _).alloc _
  have HSZ := Lib.hid (World.size_alloc W (.cells #[.int .i64 c0, .int .i64 c1, .int .i64 c2, .int .i64 c3, .int .i64 c4] 92))
  have HB1 := Lib.hid hb1
  have HC1 := Lib.hid hc1
  have HD1 := Lib.hid hd1
  have HO1 := Lib.hid ho1
  clear hb hd hb1 hc1 hd1 ho1
  go_enter Try.func89, Try.ntmps89
  go_upto_region 1 with (fail)
  generalize W.alloc (.cells #[.int .i64 c0, .int .i64 c1, .int .i64 c2, .int .i64 c3, .int .i64 c4] 92) = W1 at HSZ HB1 HC1 HD1 HO1 ⊢
  obtain ⟨k0, k1, k2, k3, k4, k5, k6, k7⟩ := cl8 HB1.out
  obtain ⟨z0, z1, z2, z3, z4, z5, z6, z7⟩ := fz8 HB1.out
  have f0 := blk_cell HC1.out 0
  have f1 := blk_cell HC1.out 1
  have f2 := blk_cell HC1.out 2
  have f3 := blk_cell HC1.out 3
  have f4 := blk_cell HC1.out 4
  have BL := Lib.hid (below_yes g x 4 W1 hl (by decide) HD1.out)
  generalize lessN 4 x = t at BL EE
  generalize lessS 4 x = y at BL EE
  go_wp2_with (first
    | (go_at_call 43; (with_reducible refine BL.out.mono ?_); rintro e w4 ⟨rfl, hd4, ho4⟩; have HB4 := Lib.hid (blk_only (S := fun k => k = g) HB1.out ho4 (fun he => by omega)); have HD4 := Lib.hid hd4; have HO4 := Lib.hid ho4; clear k0 k1 k2 k3 k4 k5 k6 k7 z0 z1 z2 z3 z4 z5 z6 z7 f0 f1 f2 f3 f4 hd4 ho4; obtain ⟨k0, k1, k2, k3, k4, k5, k6, k7⟩ := cl8 HB4.out; obtain ⟨z0, z1, z2, z3, z4, z5, z6, z7⟩ := fz8 HB4.out))
  go_end0
  rw [EE.out]
  exact ⟨rfl, _, set_at HB4.out 2 _, Kd.R_nil _ _ _ _ _, far_at HD4.out (by show g ≠ b; omega) _, (HO1.out.trans HO4.out (fun k hk => .inl (.inl hk))).set _ _ (.inl (.inr rfl))⟩
set_option maxRecDepth 20000 in
set_option maxHeartbeats 2000000 in
theorem fill_6 (g b x : Nat) (who c0 c1 c2 c3 c4 : Int) (W : World) (hl : Live x) (hgb : g < b) (hd : DAt 113 W g x) (hb : W.heap[b]? = some (.cells #[.int .i64 6, .int .i64 who, .int .i64 0, .int .u64 0, .int .i64 0, .int .i64 0, .int .i64 0, .slice none 0 0] 106 (0, 0))) :
    Calls Try.prog 89 #[.pointer (some ⟨g, 0, none⟩), .pointer (some ⟨b, 0, none⟩), Cf c0 c1 c2 c3 c4] W (FillQ W g b (fillN c0 6 who x)) := by
  have E : fillN c0 6 who x = (⟨6, who, 0, outN x, rq0⟩, stepN x) := rfl
  have EE := Lib.hid E
  clear E
  have hbl := lt_at hb
  have hb1 := old_at hb (.cells #[.int .i64 c0, .int .i64 c1, .int .i64 c2, .int .i64 c3, .int .i64 c4] 92)
  have hc1 := new_at W (.cells #[.int .i64 c0, .int .i64 c1, .int .i64 c2, .int .i64 c3, .int .i64 c4] 92)
  have hd1 : DAt 113 (W.alloc (.cells #[.int .i64 c0, .int .i64 c1, .int .i64 c2, .int .i64 c3, .int .i64 c4] 92)) g x := old_at hd _
  have ho1 : OnlyS (fun k => k = g ∨ k = b) W (W.alloc (.cells #[.int .i64 c0, .int .i64 c1, .int .i64 c2, .int .i64 c3, .int .i64 c4] 92)) := (OnlyS.refl _ _).alloc _
  have HSZ := Lib.hid (World.size_alloc W (.cells #[.int .i64 c0, .int .i64 c1, .int .i64 c2, .int .i64 c3, .int .i64 c4] 92))
  have HB1 := Lib.hid hb1
  have HC1 := Lib.hid hc1
  have HD1 := Lib.hid hd1
  have HO1 := Lib.hid ho1
  clear hb hd hb1 hc1 hd1 ho1
  go_enter Try.func89, Try.ntmps89
  go_upto_region 1 with (fail)
  generalize W.alloc (.cells #[.int .i64 c0, .int .i64 c1, .int .i64 c2, .int .i64 c3, .int .i64 c4] 92) = W1 at HSZ HB1 HC1 HD1 HO1 ⊢
  obtain ⟨k0, k1, k2, k3, k4, k5, k6, k7⟩ := cl8 HB1.out
  obtain ⟨z0, z1, z2, z3, z4, z5, z6, z7⟩ := fz8 HB1.out
  have f0 := blk_cell HC1.out 0
  have f1 := blk_cell HC1.out 1
  have f2 := blk_cell HC1.out 2
  have f3 := blk_cell HC1.out 3
  have f4 := blk_cell HC1.out 4
  have NX := Lib.hid (next_yes g x W1 hl HD1.out)
  generalize (outN x : Int) = t at NX EE
  generalize stepN x = y at NX EE
  go_wp2_with (first
    | (go_at_call 45; (with_reducible refine NX.out.mono ?_); rintro e w4 ⟨rfl, hd4, ho4⟩; have HB4 := Lib.hid (blk_only (S := fun k => k = g) HB1.out ho4 (fun he => by omega)); have HD4 := Lib.hid hd4; have HO4 := Lib.hid ho4; clear k0 k1 k2 k3 k4 k5 k6 k7 z0 z1 z2 z3 z4 z5 z6 z7 f0 f1 f2 f3 f4 hd4 ho4; obtain ⟨k0, k1, k2, k3, k4, k5, k6, k7⟩ := cl8 HB4.out; obtain ⟨z0, z1, z2, z3, z4, z5, z6, z7⟩ := fz8 HB4.out))
  go_end0
  rw [EE.out]
  exact ⟨rfl, _, set_at HB4.out 3 _, Kd.R_nil _ _ _ _ _, far_at HD4.out (by show g ≠ b; omega) _, (HO1.out.trans HO4.out (fun k hk => .inl (.inl hk))).set _ _ (.inl (.inr rfl))⟩
set_option maxRecDepth 20000 in
set_option maxHeartbeats 2000000 in
theorem fill_7 (g b x : Nat) (who c0 c1 c2 c3 c4 : Int) (W : World) (hl : Live x) (hgb : g < b) (hd : DAt 113 W g x) (hb : W.heap[b]? = some (.cells #[.int .i64 7, .int .i64 who, .int .i64 0, .int .u64 0, .int .i64 0, .int .i64 0, .int .i64 0, .slice none 0 0] 106 (0, 0))) :
    Calls Try.prog 89 #[.pointer (some ⟨g, 0, none⟩), .pointer (some ⟨b, 0, none⟩), Cf c0 c1 c2 c3 c4] W (FillQ W g b (fillN c0 7 who x)) := by
  have E : fillN c0 7 who x = (⟨7, who, lessN 12 x, outN (lessS 12 x), rq0⟩, stepN (lessS 12 x)) := rfl
  have EE := Lib.hid E
  clear E
  have hbl := lt_at hb
  have hb1 := old_at hb (.cells #[.int .i64 c0, .int .i64 c1, .int .i64 c2, .int .i64 c3, .int .i64 c4] 92)
  have hc1 := new_at W (.cells #[.int .i64 c0, .int .i64 c1, .int .i64 c2, .int .i64 c3, .int .i64 c4] 92)
  have hd1 : DAt 113 (W.alloc (.cells #[.int .i64 c0, .int .i64 c1, .int .i64 c2, .int .i64 c3, .int .i64 c4] 92)) g x := old_at hd _
  have ho1 : OnlyS (fun k => k = g ∨ k = b) W (W.alloc (.cells #[.int .i64 c0, .int .i64 c1, .int .i64 c2, .int .i64 c3, .int .i64 c4] 92)) := (OnlyS.refl _ _).alloc _
  have HSZ := Lib.hid (World.size_alloc W (.cells #[.int .i64 c0, .int .i64 c1, .int .i64 c2, .int .i64 c3, .int .i64 c4] 92))
  have HB1 := Lib.hid hb1
  have HC1 := Lib.hid hc1
  have HD1 := Lib.hid hd1
  have HO1 := Lib.hid ho1
  clear hb hd hb1 hc1 hd1 ho1
  go_enter Try.func89, Try.ntmps89
  go_upto_region 1 with (fail)
  generalize W.alloc (.cells #[.int .i64 c0, .int .i64 c1, .int .i64 c2, .int .i64 c3, .int .i64 c4] 92) = W1 at HSZ HB1 HC1 HD1 HO1 ⊢
  obtain ⟨k0, k1, k2, k3, k4, k5, k6, k7⟩ := cl8 HB1.out
  obtain ⟨z0, z1, z2, z3, z4, z5, z6, z7⟩ := fz8 HB1.out
  have f0 := blk_cell HC1.out 0
  have f1 := blk_cell HC1.out 1
  have f2 := blk_cell HC1.out 2
  have f3 := blk_cell HC1.out 3
  have f4 := blk_cell HC1.out 4
  have BL := Lib.hid (below_yes g x 12 W1 hl (by decide) HD1.out)
  have hy : Live (lessS 12 x) := lessS_live hl
  generalize lessN 12 x = t at BL EE
  generalize lessS 12 x = y at BL EE hy
  have NX := Lib.hid (fun W (hW : DAt 113 W g y) => next_yes g y W hy hW)
  generalize (outN y : Int) = u at NX EE
  generalize stepN y = z at NX EE
  go_wp2_with (first
    | (go_at_call 43; (with_reducible refine BL.out.mono ?_); rintro e w4 ⟨rfl, hd4, ho4⟩; have HB4 := Lib.hid (blk_only (S := fun k => k = g) HB1.out ho4 (fun he => by omega)); have HD4 := Lib.hid hd4; have HO4 := Lib.hid ho4; clear k0 k1 k2 k3 k4 k5 k6 k7 z0 z1 z2 z3 z4 z5 z6 z7 f0 f1 f2 f3 f4 hd4 ho4; obtain ⟨k0, k1, k2, k3, k4, k5, k6, k7⟩ := cl8 HB4.out; obtain ⟨z0, z1, z2, z3, z4, z5, z6, z7⟩ := fz8 HB4.out)
    | (go_at_call 45; (refine (NX.out _ (far_at HD4.out (by show g ≠ b; omega) _)).mono ?_); rintro e w5 ⟨rfl, hd5, ho5⟩; have HB5 := Lib.hid (blk_only (S := fun k => k = g) (set_at HB4.out 2 (.int .i64 t)) ho5 (fun he => by omega)); have HD5 := Lib.hid hd5; have HO5 := Lib.hid ho5; clear k0 k1 k2 k3 k4 k5 k6 k7 z0 z1 z2 z3 z4 z5 z6 z7 hd5 ho5; obtain ⟨k0, k1, k2, k3, k4, k5, k6, k7⟩ := cl8 (show w5.heap[b]? = some (.cells #[.int .i64 7, .int .i64 who, .int .i64 t, .int .u64 0, .int .i64 0, .int .i64 0, .int .i64 0, .slice none 0 0] 106 (0, 0)) from HB5.out); obtain ⟨z0, z1, z2, z3, z4, z5, z6, z7⟩ := fz8 HB5.out))
  go_end0
  rw [EE.out]
  exact ⟨rfl, _, set_at HB5.out 3 _, Kd.R_nil _ _ _ _ _, far_at HD5.out (by show g ≠ b; omega) _, (((HO1.out.trans HO4.out (fun k hk => .inl (.inl hk))).set _ _ (.inl (.inr rfl))).trans HO5.out (fun k hk => .inl (.inl hk))).set _ _ (.inl (.inr rfl))⟩
theorem fill0_end {W W1 w4 : World} {g b d4 : Nat} {who : Int} {A4 : Option Addr} {r : Rq × Nat} (hgb : g < b) (hbl : b < W.heap.size) (hsz : W1.heap.size = W.heap.size + 1) (ho1 : OnlyS (fun k => k = g ∨ k = b) W W1)
    (hb4 : w4.heap[b]? = some (.cells #[.int .i64 0, .int .i64 who, .int .i64 0, .int .u64 0, .int .i64 0, .int .i64 0, .int .i64 0, .slice none 0 0] 106 (0, 0))) (hr4 : Kd.R KB 5 w4 W1.heap.size (fun _ => True) (.slice A4 r.1.data.length d4) r.1.data) (hd4 : DAt 113 w4 g r.2) (ho4 : OnlyS (· = g) W1 w4) :
    FillQ W g b ((⟨0, who, 0, 0, r.1⟩ : Ac), r.2) (.returned (.tuple #[])) ((((w4.setCell ⟨b, 4, none⟩ (.int .i64 r.1.kd)).setCell ⟨b, 5, none⟩ (.int .i64 r.1.off)).setCell ⟨b, 6, none⟩ (.int .i64 r.1.len)).setCell ⟨b, 7, none⟩ (.slice A4 r.1.data.length d4)) := by
  have h1 : (w4.setCell ⟨b, 4, none⟩ (.int .i64 r.1.kd)).heap[b]? = some (.cells #[.int .i64 0, .int .i64 who, .int .i64 0, .int .u64 0, .int .i64 r.1.kd, .int .i64 0, .int .i64 0, .slice none 0 0] 106 (0, 0)) := set_at hb4 4 _
  have h2 : ((w4.setCell ⟨b, 4, none⟩ (.int .i64 r.1.kd)).setCell ⟨b, 5, none⟩ (.int .i64 r.1.off)).heap[b]? = some (.cells #[.int .i64 0, .int .i64 who, .int .i64 0, .int .u64 0, .int .i64 r.1.kd, .int .i64 r.1.off, .int .i64 0, .slice none 0 0] 106 (0, 0)) := set_at h1 5 _
  have h3 : (((w4.setCell ⟨b, 4, none⟩ (.int .i64 r.1.kd)).setCell ⟨b, 5, none⟩ (.int .i64 r.1.off)).setCell ⟨b, 6, none⟩ (.int .i64 r.1.len)).heap[b]? = some (.cells #[.int .i64 0, .int .i64 who, .int .i64 0, .int .u64 0, .int .i64 r.1.kd, .int .i64 r.1.off, .int .i64 r.1.len, .slice none 0 0] 106 (0, 0)) := set_at h2 6 _
  have h4 : ((((w4.setCell ⟨b, 4, none⟩ (.int .i64 r.1.kd)).setCell ⟨b, 5, none⟩ (.int .i64 r.1.off)).setCell ⟨b, 6, none⟩ (.int .i64 r.1.len)).setCell ⟨b, 7, none⟩ (.slice A4 r.1.data.length d4)).heap[b]? = some (.cells #[.int .i64 0, .int .i64 who, .int .i64 0, .int .u64 0, .int .i64 r.1.kd, .int .i64 r.1.off, .int .i64 r.1.len, .slice A4 r.1.data.length d4] 106 (0, 0)) := set_at h3 7 _
  have o4 := only47 w4 b (.int .i64 r.1.kd) (.int .i64 r.1.off) (.int .i64 r.1.len) (.slice A4 r.1.data.length d4)
  refine ⟨rfl, _, h4, ?_, d_only hd4 o4 (fun he => by omega), (ho1.trans ho4 (fun k hk => .inl (.inl hk))).trans o4 (fun k hk => .inl (.inr hk))⟩
  exact Kd.R_lower (Kd.R_mono (Kd.R_step (Kd.R_bound hr4) (fun k hk hlt => o4.block k hlt (fun he => by have h5 := hk.2.1; have h6 := hsz; omega))) (fun _ _ => trivial)) (by have h6 := hsz; omega)
set_option maxRecDepth 20000 in
set_option maxHeartbeats 2000000 in
theorem fill_0 (g b x : Nat) (who c0 c1 c2 c3 c4 : Int) (W : World) (hl : Live x) (hgood : reqGood c0 c1 c2 c3 c4 = true) (hs : 1 ≤ c0) (hs2 : c0 ≤ 256) (hgb : g < b) (hd : DAt 113 W g x) (hb : W.heap[b]? = some (.cells #[.int .i64 0, .int .i64 who, .int .i64 0, .int .u64 0, .int .i64 0, .int .i64 0, .int .i64 0, .slice none 0 0] 106 (0, 0))) :
    Calls Try.prog 89 #[.pointer (some ⟨g, 0, none⟩), .pointer (some ⟨b, 0, none⟩), Cf c0 c1 c2 c3 c4] W (FillQ W g b (fillN c0 0 who x)) := by
  have E : fillN c0 0 who x = (⟨0, who, 0, 0, (reqN c0 x).1⟩, (reqN c0 x).2) := if_pos rfl
  have EE := Lib.hid E
  clear E
  have hbl := lt_at hb
  have hb1 := old_at hb (.cells #[.int .i64 c0, .int .i64 c1, .int .i64 c2, .int .i64 c3, .int .i64 c4] 92)
  have hc1 := new_at W (.cells #[.int .i64 c0, .int .i64 c1, .int .i64 c2, .int .i64 c3, .int .i64 c4] 92)
  have hd1 : DAt 113 (W.alloc (.cells #[.int .i64 c0, .int .i64 c1, .int .i64 c2, .int .i64 c3, .int .i64 c4] 92)) g x := old_at hd _
  have ho1 : OnlyS (fun k => k = g ∨ k = b) W (W.alloc (.cells #[.int .i64 c0, .int .i64 c1, .int .i64 c2, .int .i64 c3, .int .i64 c4] 92)) := (OnlyS.refl _ _).alloc _
  have HSZ := Lib.hid (World.size_alloc W (.cells #[.int .i64 c0, .int .i64 c1, .int .i64 c2, .int .i64 c3, .int .i64 c4] 92))
  have HB1 := Lib.hid hb1
  have HC1 := Lib.hid hc1
  have HD1 := Lib.hid hd1
  have HO1 := Lib.hid ho1
  clear hb hd hb1 hc1 hd1 ho1
  go_enter Try.func89, Try.ntmps89
  go_upto_region 1 with (fail)
  generalize W.alloc (.cells #[.int .i64 c0, .int .i64 c1, .int .i64 c2, .int .i64 c3, .int .i64 c4] 92) = W1 at HSZ HB1 HC1 HD1 HO1 ⊢
  obtain ⟨k0, k1, k2, k3, k4, k5, k6, k7⟩ := cl8 HB1.out
  obtain ⟨z0, z1, z2, z3, z4, z5, z6, z7⟩ := fz8 HB1.out
  have f0 := blk_cell HC1.out 0
  have f1 := blk_cell HC1.out 1
  have f2 := blk_cell HC1.out 2
  have f3 := blk_cell HC1.out 3
  have f4 := blk_cell HC1.out 4
  have RQ := Lib.hid (request_c g x c0 c1 c2 c3 c4 W1 hl hgood hs hs2 HD1.out)
  generalize reqN c0 x = r at RQ EE
  clear hl hgood hs hs2
  go_wp2_with (first
    | (go_at_call 48; (refine RQ.out.mono ?_); rintro e w4 ⟨v4, rfl, hr4, hd4, ho4⟩; obtain ⟨A4, d4, rfl⟩ := Kd.R_slice hr4; have HB4 := Lib.hid (blk_only (S := fun k => k = g) HB1.out ho4 (fun he => by omega)); have HR4 := Lib.hid hr4; have HD4 := Lib.hid hd4; have HO4 := Lib.hid ho4; clear k0 k1 k2 k3 k4 k5 k6 k7 z0 z1 z2 z3 z4 z5 z6 z7 f0 f1 f2 f3 f4 hd4 ho4 hr4; obtain ⟨k0, k1, k2, k3, k4, k5, k6, k7⟩ := cl8 HB4.out; obtain ⟨z0, z1, z2, z3, z4, z5, z6, z7⟩ := fz8 HB4.out))
  go_end0
  rw [EE.out]
  exact fill0_end hgb hbl HSZ.out HO1.out HB4.out HR4.out HD4.out HO4.out
theorem fill_c (g b x : Nat) (kind who c0 c1 c2 c3 c4 : Int) (W : World) (hl : Live x) (hgood : reqGood c0 c1 c2 c3 c4 = true) (hs : 1 ≤ c0) (hs2 : c0 ≤ 256) (hk : 0 ≤ kind ∧ kind ≤ 7) (hgb : g < b) (hd : DAt 113 W g x) (hb : W.heap[b]? = some (.cells #[.int .i64 kind, .int .i64 who, .int .i64 0, .int .u64 0, .int .i64 0, .int .i64 0, .int .i64 0, .slice none 0 0] 106 (0, 0))) :
    Calls Try.prog 89 #[.pointer (some ⟨g, 0, none⟩), .pointer (some ⟨b, 0, none⟩), Cf c0 c1 c2 c3 c4] W (FillQ W g b (fillN c0 kind who x)) := by
  rcases (show kind = 0 ∨ kind = 1 ∨ kind = 2 ∨ kind = 3 ∨ kind = 4 ∨ kind = 5 ∨ kind = 6 ∨ kind = 7 by omega) with rfl | rfl | rfl | rfl | rfl | rfl | rfl | rfl
  · exact fill_0 g b x who c0 c1 c2 c3 c4 W hl hgood hs hs2 hgb hd hb
  · exact fill_none g b x c0 1 who c0 c1 c2 c3 c4 W (by decide) (by decide) (by decide) (by decide) (by decide) (by decide) hd hb
  · exact fill_2 g b x who c0 c1 c2 c3 c4 W hl hgb hd hb
  · exact fill_3 g b x who c0 c1 c2 c3 c4 W hl hgb hd hb
  · exact fill_4 g b x who c0 c1 c2 c3 c4 W hl hgb hd hb
  · exact fill_none g b x c0 5 who c0 c1 c2 c3 c4 W (by decide) (by decide) (by decide) (by decide) (by decide) (by decide) hd hb
  · exact fill_6 g b x who c0 c1 c2 c3 c4 W hl hgb hd hb
  · exact fill_7 g b x who c0 c1 c2 c3 c4 W hl hgb hd hb
/-- AN ACT, THE PROGRAM's -/
theorem act_c (g x : Nat) (c0 c1 c2 c3 c4 a0 a1 a2 a3 a4 a5 a6 a7 : Int) (W : World) (hl : Live x) (hgood : reqGood c0 c1 c2 c3 c4 = true) (hs : 1 ≤ c0) (hs2 : c0 ≤ 256) (hsum : sum8 a0 a1 a2 a3 a4 a5 a6 a7 ≠ 0) (h : DAt 113 W g x) :
    Calls Try.prog 51 #[.pointer (some ⟨g, 0, none⟩), Cf c0 c1 c2 c3 c4, W8 a0 a1 a2 a3 a4 a5 a6 a7] W (ActQ 113 W g (actN c0 a0 a1 a2 a3 a4 a5 a6 a7 x)) := by
  refine act_with g x c0 c1 c2 c3 c4 a0 a1 a2 a3 a4 a5 a6 a7 W hl h hgood hsum ?_
  intro W' b kind who y hk h1 h2 hy hd hb hgb
  exact fill_c g b y kind who c0 c1 c2 c3 c4 W' hy hgood hs hs2 (by rw [hk]; exact kind8_le _ _ _ _ _ _ _ _ _) hgb hd hb
end Go.Proofs.Ytoobbolaoldacaa.DiceW
