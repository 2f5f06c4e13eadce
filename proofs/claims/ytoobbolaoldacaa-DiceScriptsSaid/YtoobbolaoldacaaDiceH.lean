/-
  Dice: fill where nothing is beside; what dice that no call made throw; lives.
-/
import Derived.Test.YtoobbolaoldacaaDiceG
import Derived.Test.YtoobbolaoldacaaDicex3
namespace Go.Proofs.Ytoobbolaoldacaa.DiceW
open Go.RowKit Go.Proofs.Ytoobbolaoldacaa Go.Proofs.Ytoobbolaoldacaa.Dice Go.Proofs.Ytoobbolaoldacaa.DiceP Go.Proofs.Ytoobbolaoldacaa.RowOwn Go.Proofs.YtoobbolaoldacaaW.PrintWords Go.Proofs.YtoobbolaoldacaaW.PrintLast Go.Proofs.YtoobbolaoldacaaW.PrintMore
set_option linter.unusedVariables false
set_option maxRecDepth 20000 in
theorem fill_none (g b x : Nat) (s kind who c0 c1 c2 c3 c4 : Int) (W : World) (h0 : ¬ kind = 0) (h2 : ¬ kind = 2) (h3 : ¬ kind = 3) (h4 : ¬ kind = 4) (h6 : ¬ kind = 6) (h7 : ¬ kind = 7)
    (hd : DAt 113 W g x) (hb : W.heap[b]? = some (.cells #[.int .i64 kind, .int .i64 who, .int .i64 0, .int .u64 0, .int .i64 0, .int .i64 0, .int .i64 0, .slice none 0 0] 106 (0, 0))) :
    Calls Try.prog 89 #[.pointer (some ⟨g, 0, none⟩), .pointer (some ⟨b, 0, none⟩), Cf c0 c1 c2 c3 c4] W (FillQ W g b (fillN s kind who x)) := by
  have e : fillN s kind who x = (⟨kind, who, 0, 0, rq0⟩, x) := by
    unfold fillN
    rw [if_neg h0, if_neg (by omega), if_neg h7, if_neg h6]
  rw [e]
  have hb1 := old_at hb (.cells #[.int .i64 c0, .int .i64 c1, .int .i64 c2, .int .i64 c3, .int .i64 c4] 92)
  have k0 := blk_cell hb1 0
  have k1 : ((W.alloc (.cells #[.int .i64 c0, .int .i64 c1, .int .i64 c2, .int .i64 c3, .int .i64 c4] 92))).cell? ⟨b, 0, none⟩ = some (.int .i64 kind) := k0
  clear k0 e
  have HB := Lib.hid hb1
  have HD := Lib.hid hd
  clear hb1 hb hd
  go_enter Try.func89, Try.ntmps89
  go_wp2_with fail
  go_end0
  exact ⟨rfl, _, HB.out, Kd.R_nil _ _ _ _ _, old_at HD.out _, (OnlyS.refl _ _).alloc _⟩
/-- an element of a row of acts, as it is read -/
theorem KA_open {w : World} {x : Ac} {cs : List Value} (h : KA.K w x cs) : ∃ A c, cs = (acells x (.slice A x.r.data.length c)).toList ∧ x.r.data.length ≤ c ∧ KB.C w A x.r.data.length x.r.data := by
  obtain ⟨_, _, rfl, rfl, _, _, rfl, rfl, _, _, rfl, rfl, _, _, rfl, rfl, _, _, rfl, rfl, _, _, rfl, rfl, _, _, rfl, rfl, ⟨A, c, rfl, hc, hC⟩⟩ := h
  exact ⟨A, c, rfl, hc, hC⟩
theorem at_KA {w : World} {A : Option Addr} {n : Nat} {xs : List Ac} (h : Kd.C KA w A n xs) (i : Nat) (hi : i < xs.length) :
    ∃ ad D c, A = some ad ∧ w.cell? (ad.add (i * 8)) = some (.int .i64 xs[i].kind) ∧ w.cell? ⟨(ad.add (i * 8)).block, (ad.add (i * 8)).off + 1, none⟩ = some (.int .i64 xs[i].who) ∧ w.cell? ⟨(ad.add (i * 8)).block, (ad.add (i * 8)).off + 2, none⟩ = some (.int .i64 xs[i].at_) ∧ w.cell? ⟨(ad.add (i * 8)).block, (ad.add (i * 8)).off + 3, none⟩ = some (.int .u64 xs[i].mask) ∧ w.cell? ⟨(ad.add (i * 8)).block, (ad.add (i * 8)).off + 4, none⟩ = some (.int .i64 xs[i].r.kd) ∧ w.cell? ⟨(ad.add (i * 8)).block, (ad.add (i * 8)).off + 5, none⟩ = some (.int .i64 xs[i].r.off) ∧ w.cell? ⟨(ad.add (i * 8)).block, (ad.add (i * 8)).off + 6, none⟩ = some (.int .i64 xs[i].r.len) ∧ w.cell? ⟨(ad.add (i * 8)).block, (ad.add (i * 8)).off + 7, none⟩ = some (.slice D xs[i].r.data.length c) ∧ xs[i].r.data.length ≤ c ∧ Kd.C KB w D xs[i].r.data.length xs[i].r.data := by
  have hn : xs.length = n := h.1
  obtain ⟨ad, c, e, _, hK, hc0⟩ := Kd.C_get h ac0 (i : Int) (by omega) (by omega)
  rw [Int.toNat_natCast] at hK hc0
  rw [List.getD_eq_getElem?_getD, List.getElem?_eq_getElem hi] at hK
  have hc : ∀ j u, c[j]? = some u → w.cell? (ad.add (i * 8 + j)) = some u := hc0
  obtain ⟨A0, c0, rfl, hl, hC⟩ := KA_open hK
  exact ⟨ad, A0, c0, e, hc 0 _ rfl, by rw [← add_field _ _ 1 (by omega)]; exact hc 1 _ rfl, by rw [← add_field _ _ 2 (by omega)]; exact hc 2 _ rfl, by rw [← add_field _ _ 3 (by omega)]; exact hc 3 _ rfl, by rw [← add_field _ _ 4 (by omega)]; exact hc 4 _ rfl, by rw [← add_field _ _ 5 (by omega)]; exact hc 5 _ rfl, by rw [← add_field _ _ 6 (by omega)]; exact hc 6 _ rfl, by rw [← add_field _ _ 7 (by omega)]; exact hc 7 _ rfl, hl, hC⟩
/-- the act that lives throws -/
abbrev FL (x : Nat) : Ac × Nat := actN 16 0 1 0 0 0 0 0 0 x
theorem sumL : sum8 0 1 0 0 0 0 0 0 = 1 := by decide
theorem lessL (x : Nat) : lessN 1 x = 0 := by unfold lessN; rw [if_neg (by decide)]; simp [Nat.mod_one]
theorem kindL (x : Nat) : kind8 0 1 0 0 0 0 0 0 (lessN (sum8 0 1 0 0 0 0 0 0) x) = 1 := by rw [sumL, lessL]; decide
theorem FL_kind (x : Nat) : (FL x).1.kind = 1 := by
  show (fillN 16 _ _ _).1.kind = 1
  rw [kindL]
  rfl
theorem FL_live (x : Nat) (h : Live x) : Live (FL x).2 := by
  show Live (fillN 16 _ _ _).2
  rw [kindL]
  exact (lessS_live (lessS_live h) : Live (lessS 2 (lessS (sum8 0 1 0 0 0 0 0 0) x)))
theorem act_lives (W : World) (g x : Nat) (hl : Live x) (h : DAt 113 W g x) : Calls Try.prog 51 #[.pointer (some ⟨g, 0, none⟩), Cf 16 3 4 4 3, W8 0 1 0 0 0 0 0 0] W (ActQ 113 W g (FL x)) := by
  refine act_with g x 16 3 4 4 3 0 1 0 0 0 0 0 0 W hl h (by decide) (by decide) ?_
  intro W' b kind who y hk h1 h2 hy hd hb hgb
  rw [kindL] at hk
  subst hk
  exact fill_none g b y 16 1 who 16 3 4 4 3 W' (by decide) (by decide) (by decide) (by decide) (by decide) (by decide) hd hb
theorem next_lives (g : Nat) (w : World) (h : DAt 113 w g 88172645463325252) : Calls Try.prog 45 #[.pointer (some ⟨g, 0, none⟩)] w fun e w' => ∃ ov : Int, ¬ ov = 0 ∧ e = .returned (.int .u64 ov) ∧ OnlyS (· = g) w w' :=
  (next_yes g 88172645463325252 w ⟨by decide, by decide⟩ h).mono fun e w' ⟨he, _, ho⟩ => ⟨_, (by decide +kernel : ¬ ((outN 88172645463325252 : Nat) : Int) = 0), he, ho⟩
set_option maxRecDepth 20000 in
set_option maxHeartbeats 1000000 in
theorem lives41 (w : World) : Calls Try.prog 40 #[] w fun e w' => e = .returned (.bool true) ∧ Below w.heap.size w w' := by
  have NW : ∀ w, Calls Try.prog 41 #[.int .u64 0] w fun e w' => e = .returned (.pointer (some ⟨w.heap.size, 0, none⟩)) ∧ w.alloc (.cells #[.int .u64 (88172645463325252 : Int)] 113) = w' := fun w => new_walk 0 w (by decide)
  have SC : ∀ w, Calls Try.prog 52 #[.int .u64 1, Cf 16 3 4 4 3, .int .i64 2, W8 0 1 0 0 0 0 0 0] w fun e w' => ∃ v, e = .returned v ∧ Row KA 106 w' w.heap.size (fun _ => True) v (scL FL 2 1) ∧ Below w.heap.size w w' := fun w => script_with FL 1 2 16 3 4 4 3 0 1 0 0 0 0 0 0 w (by decide) (by decide) (by decide) (by decide) FL_live act_lives
  have hl2 : (scL FL 2 1).length = 2 := scL_len _ _ _
  have hx0 : ∀ h, ((scL FL 2 1)[0]'h).kind = 1 := fun _ => FL_kind _
  have hx1 : ∀ h, ((scL FL 2 1)[1]'h).kind = 1 := fun _ => FL_kind _
  generalize scL FL 2 1 = L at SC hl2 hx0 hx1
  have hbn : lessN 0 88172645463325252 = 0 := rfl
  have hbs : lessS 0 88172645463325252 = 88172645463325252 := rfl
  have HLv : Live 88172645463325252 := ⟨by decide, by decide⟩
  have NW := Lib.hid NW
  have SC := Lib.hid SC
  have hwl := Lib.hid hx0
  have hx1' := Lib.hid hx1
  clear hx0 hx1
  go_enter Try.func40, Try.ntmps40
  go_wp2_with (first
    | (go_at_call 41; refine (NW.out _).mono ?_; rintro e w1 ⟨rfl, rfl⟩)
    | (go_at_call 82; refine (twainlaw34_Set.calls 16 3 4 4 3 _ rfl).mono ?_; rintro e w2 ⟨rfl, hb2⟩)
    | (go_at_call 52; refine (SC.out _).mono ?_; rintro e w3 ⟨v3, rfl, hrow3, hb3⟩; obtain ⟨A3, c3, he3, _, _⟩ := row_reads hrow3; rw [hl2] at he3; subst he3; have hd3 : DAt 113 w3 w.heap.size 88172645463325252 := d_below (d_below (new_at _ _) hb2) hb3)
    | (go_at_call 43; refine (below_yes w.heap.size 88172645463325252 0 _ HLv (by decide) hd3).mono ?_; rw [hbn, hbs]; rintro e w4 ⟨rfl, hd4, ho4⟩))
  refine (next_lives w.heap.size _ hd4).mono ?_
  rintro e w5 ⟨ov, hov, rfl, ho5⟩
  have hrow5 := row_only (row_only (row_mono (ok' := fun k => w2.heap.size ≤ k) (row_bound hrow3) (fun k hk => hk.2.1)) ho4 (fun k hk he => by have := d_lt (d_below (new_at w _) hb2); omega)) ho5 (fun k hk he => by have := d_lt (d_below (new_at w _) hb2); omega)
  obtain ⟨_, _, he5, _, hC5⟩ := row_reads hrow5
  injection he5 with q1 q2 q3
  subst q1
  subst q3
  clear q2
  obtain ⟨ad, _, _, he, z0, _⟩ := at_KA hC5 0 (by omega)
  obtain ⟨ad', _, _, he', z1, _⟩ := at_KA hC5 1 (by omega)
  subst he
  injection he' with he'
  subst he'
  rw [hwl.out] at z0
  rw [hx1'.out] at z1
  replace z0 : w5.cell? ad = some (.int .i64 1) := z0
  replace z1 : w5.cell? ⟨ad.block, ad.off + 8, none⟩ = some (.int .i64 1) := z1
  have hov' : (ov != 0) = true := by simpa using hov
  clear hC5
  go_wp2_with fail
  go_ret
  exact ⟨rfl, (ho5.to_below (ho4.to_below (bl_then (bl_then (bl_all (Below.refl _ _) _) hb2) hb3) (fun k hk => by omega) (bl_then (bl_then (bl_all (Below.refl _ _) _) hb2) hb3).size) (fun k hk => by omega) (Nat.le_trans (bl_then (bl_then (bl_all (Below.refl _ _) _) hb2) hb3).size ho4.size))⟩
end Go.Proofs.Ytoobbolaoldacaa.DiceW
