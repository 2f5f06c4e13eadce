/-
  The walk of LaterActs.
-/
import Derived.Test.YtoobbolaoldacaaLaterB
import Derived.Deep.DeepCutAuto
namespace Go.Proofs.Ytoobbolaoldacaa.LaterW
open Go.RowKit Go.Proofs.Ytoobbolaoldacaa Go.Proofs.Ytoobbolaoldacaa.Later Go.Proofs.Ytoobbolaoldacaa.LaterSP Go.Proofs.Ytoobbolaoldacaa.LaterP Go.Proofs.Ytoobbolaoldacaa.RowOwn Go.Proofs.Ytoobbolaoldacaa.CloneB Go.Proofs.YtoobbolaoldacaaW.PrintWords Go.Proofs.YtoobbolaoldacaaW.PrintLast Go.Proofs.YtoobbolaoldacaaW.PrintMore
set_option linter.unusedVariables false
theorem left_len (own : List S38) (L : List Wr) : (leftN own L).length ≤ L.length := by
  unfold leftN
  split
  · exact Nat.le_refl _
  · exact List.length_eraseIdx_le _ _
theorem held_keep {W1 v v' : World} {g b : Nat} {so sl : Int} {L : List Wr} {A8 : Option Addr} {c8 : Nat} (hbg : b < g) (h : v.cell? ⟨b, 0, none⟩ = some (.int .i64 so) ∧ v.cell? ⟨b, 1, none⟩ = some (.int .i64 sl) ∧ v.cell? ⟨g + 1, 0, none⟩ = some (.slice A8 L.length c8) ∧ BS W1 g L v) (hb : Below v.heap.size v v') :
    v'.cell? ⟨b, 0, none⟩ = some (.int .i64 so) ∧ v'.cell? ⟨b, 1, none⟩ = some (.int .i64 sl) ∧ v'.cell? ⟨g + 1, 0, none⟩ = some (.slice A8 L.length c8) ∧ BS W1 g L v' := by
  obtain ⟨h1, h2, h3, h4⟩ := h
  have hl := bs_lt h4
  obtain ⟨_, _, _, hg1⟩ := bs_cell h4
  exact ⟨(hb.cell (p := ⟨b, 0, none⟩) (by show b < _; omega)).trans h1, (hb.cell (p := ⟨b, 1, none⟩) (by show b < _; omega)).trans h2, (hb.cell (p := ⟨g + 1, 0, none⟩) hg1).trans h3, bs_below h4 hb⟩
set_option maxHeartbeats 8000000 in
set_option maxRecDepth 100000 in
theorem acts_walk (A : Option Addr) (cap : Nat) (l : List S31) (so sl : Int) (w : World) (hr : Kd.C k31 w A l.length l) :
    Calls Try.prog 5 #[.slice A l.length cap, .agg #[.int .i64 so, .int .i64 sl]] w fun e w' => e = .returned (.bool true) ∧ Below w.heap.size w w' := by
  have LV := Lib.hid (lives25)
  have hbW : Below w.heap.size w (w.alloc (.cells #[.int .i64 so, .int .i64 sl] 27)) := bl_all (Below.refl _ _) _
  have hbx := new_at w (.cells #[.int .i64 so, .int .i64 sl] 27)
  have hsz : (w.alloc (.cells #[.int .i64 so, .int .i64 sl] 27)).heap.size = w.heap.size + 1 := World.size_alloc _ _
  by_cases h1 : 60 < l.length
  · have h1' : (60 : Int) < (l.length : Int) := by omega
    go_enter Try.func5, Try.ntmps5
    go_wp2_with fail
    refine (LV.out _).mono ?_
    rintro e w' ⟨rfl, hb⟩
    go_wp2_with fail
    go_ret
    exact ⟨rfl, bl_to hbW hb (by omega)⟩
  have h1' : ¬ (60 : Int) < (l.length : Int) := by omega
  have HR := Lib.hid hr
  have HBX := Lib.hid hbx
  have HBW := Lib.hid hbW
  have N := Lib.hid (New_c (w.alloc (.cells #[.int .i64 so, .int .i64 sl] 27)))
  have hu := Try.underlying31
  have hu34 := Try.underlying34
  have hu62 := Try.underlying62
  clear hr hbx hbW
  go_enter Try.func5, Try.ntmps5
  go_wp2_with fail
  generalize w.alloc (.cells #[.int .i64 so, .int .i64 sl] 27) = W1 at HBX HBW hsz N ⊢
  generalize hb0 : w.heap.size = b at HBX HBW hsz ⊢
  have HB00 := Lib.hid hb0
  clear hb0
  have FIN := Lib.hid (show ∀ u u' : World, Below (b + 1) W1 u → Below u.heap.size u u' → b + 1 ≤ u.heap.size → Below b w u' from fun u u' h1 h2 h3 => HBW.out.trans ((bl_to h1 h2 h3).mono (by omega)))
  generalize hg : W1.heap.size = g at N hsz
  subst hsz
  refine N.out.mono ?_
  rintro e w1 ⟨rfl, hw1⟩
  have hn1 : QAt w1 (b + 1) (b + 1) [] (fun k => k = b + 1) := new_q w1 (b + 1) (by rw [← hw1, ← hg]; exact new_at _ _)
  have HB1 : Hid (Below (b + 1) W1 w1) := Lib.hid (by rw [← hw1, ← hg]; exact bl_all (Below.refl _ W1) _)
  have hs1 : w1.heap.size = b + 1 + 1 := by rw [← hw1, ← hg]; simp
  have HN1 := Lib.hid hn1
  have HG := Lib.hid hg
  clear hw1 N hn1 hg
  go_wp2_with fail
  have hbl : Below w1.heap.size w1 (w1.alloc (.cells #[.slice none 0 0] 60)) := bl_all (Below.refl _ _) _
  have hr2 : RQAt (w1.alloc (.cells #[.slice none 0 0] 60)) (b + 1 + 1) (b + 1 + 1) [] (fun k => k = b + 1 + 1) := new_rq _ (b + 1 + 1) (by have := new_at w1 (.cells #[.slice none 0 0] 60); rwa [hs1] at this)
  have hbs : BS W1 (b + 1) [] (w1.alloc (.cells #[.slice none 0 0] 60)) := ⟨_, _, rw_below HN1.out hbl, hr2, fun k hk he => by omega, bl_to HB1.out hbl (by omega)⟩
  try rw [hs1]
  generalize w1.alloc (.cells #[.slice none 0 0] 60) = w2 at hbs ⊢
  have HBS0 := Lib.hid hbs
  clear hbl hr2 hbs HN1 HB1 hs1
  go_loopw [22] (fun i wr => ∃ (k : Nat) (L : List Wr), k ≤ l.length ∧ i = .int .i64 k ∧ L.length ≤ k ∧ BS W1 (b + 1) L wr) (fun i _ => l.length - (intOf i).toNat)
  case atStart => exact ⟨0, [], Nat.zero_le _, rfl, Nat.le_refl _, HBS0.out⟩
  case round =>
    obtain ⟨k, L, hk, rfl, hLk, hBS⟩ := hrel
    have HBS := Lib.hid hBS
    have hgl := (bs_lt hBS).1
    clear hBS HBS0
    by_cases hlt : k < l.length
    · have hlt' : (k : Int) < (l.length : Int) := by omega
      have hbw : Below w.heap.size w wr := by rw [HB00.out]; exact FIN.out _ _ (bs_bel HBS.out) (Below.refl _ _) (by omega)
      obtain ⟨ad, B, cb, O, co, rfl, t0, t1, t2, t3, t4, t5, zC, hco, zO⟩ := at_act HR.out k hlt
      have z0 := (hbw.cell (World.block_lt_of_cell? w _ t0)).trans t0
      have z1 := (hbw.cell (World.block_lt_of_cell? w _ t1)).trans t1
      have z2 := (hbw.cell (World.block_lt_of_cell? w _ t2)).trans t2
      have z3 := (hbw.cell (World.block_lt_of_cell? w _ t3)).trans t3
      have z4 := (hbw.cell (World.block_lt_of_cell? w _ t4)).trans t4
      have z5 := (hbw.cell (World.block_lt_of_cell? w _ t5)).trans t5
      have HZC := Lib.hid (Kd.C_below zC hbw)
      have HZO := Lib.hid (Kd.C_below zO hbw)
      have HZOA := Lib.hid (fun (u : World) (hu : Below (b + 1) W1 u) => Kd.C_below zO (show Below w.heap.size w u by rw [HB00.out]; exact HBW.out.trans (hu.mono (by omega))))
      have HZCA := Lib.hid (fun (u : World) (hu : Below (b + 1) W1 u) => Kd.C_below zC (show Below w.heap.size w u by rw [HB00.out]; exact HBW.out.trans (hu.mono (by omega))))
      clear hbw zC zO t0 t1 t2 t3 t4 t5
      generalize l[k].f0 = y0 at z0
      generalize l[k].f1 = y1 at z1
      generalize l[k].f2.f0 = y2 at z2
      generalize l[k].f2.f1 = y3 at z3
      generalize l[k].f3 = y4 at z4 HZC HZCA
      generalize l[k].f4 = y5 at z5 HZO HZOA hco
      have HAS := Lib.hid (bs_ds HBS.out #[.bool y0, .int .i64 y1, .int .i64 y2, .int .i64 y3, .slice B y4.length cb, .slice O y5.length co] 31)
      have hba : Below wr.heap.size wr (wr.alloc (.cells #[.bool y0, .int .i64 y1, .int .i64 y2, .int .i64 y3, .slice B y4.length cb, .slice O y5.length co] 31)) := bl_all (Below.refl _ _) _
      have HZC1 := Lib.hid (Kd.C_below HZC.out hba)
      have HZO1 := Lib.hid (Kd.C_below HZO.out hba)
      clear HZC HZO
      by_cases hb2 : 200 < y4.length
      · have q2 : (200 : Int) < (y4.length : Int) := by omega
        go_wp2_with fail
        refine (LV.out _).mono ?_
        rintro e w' ⟨rfl, hb3⟩
        go_wp2_with fail
        go_ret
        exact ⟨rfl, by rw [HB00.out]; exact FIN.out _ _ (ds_bel HAS.out) hb3 (by simp; omega)⟩
      have q2 : ¬ (200 : Int) < (y4.length : Int) := by omega
      by_cases hb3 : 40 < y5.length
      · have q3 : (40 : Int) < (y5.length : Int) := by omega
        go_wp2_with fail
        refine (LV.out _).mono ?_
        rintro e w' ⟨rfl, hb3⟩
        go_wp2_with fail
        go_ret
        exact ⟨rfl, by rw [HB00.out]; exact FIN.out _ _ (ds_bel HAS.out) hb3 (by simp; omega)⟩
      have q3 : ¬ (40 : Int) < (y5.length : Int) := by omega
      cases y0 with
      | true =>
        go_wp2_with fail
        have OWN := Lib.hid (twainlaw23_Owns.calls 300 O co y5 (y5.map conv) _ HZO1.out hco (owns_p y5 (by omega) 300 (by omega)))
        refine OWN.out.mono ?_
        rintro e w3 ⟨v3, rfl, hr3, hb3⟩
        obtain ⟨A3, c3, rfl, hc3, hC3⟩ := Kd.R_reads hr3
        have NX := Lib.hid (ds_next (y5.map conv) A3 c3 (ds_below HAS.out hb3) hC3 hc3)
        have RX := Lib.hid (fun (u : World) o2 p L1 v d (h : DS W1 (b + 1) wr.heap.size (.cells #[.bool true, .int .i64 y1, .int .i64 y2, .int .i64 y3, .slice B y4.length cb, .slice O y5.length co] 31 (0, 0)) p o2 L1 L v d u) => ds_rnext y5 O co h (HZOA.out u (ds_bel h)) hco (by omega))
        have hll := left_len (y5.map conv) L
        generalize y5.map conv = om at NX RX hll hc3
        generalize hqk : wr.heap.size = qk at HAS RX NX
        have HQK := Lib.hid hqk
        clear hr3 hC3 hb3 OWN hqk
        go_wp2_with fail
        refine NX.out.mono ?_
        rintro e w4 ⟨v4, rfl, hd4⟩
        obtain ⟨A4, c4, rfl, _⟩ := ds_val hd4
        generalize pickN om L = x at hd4 RX ⊢
        generalize (nextN om L).isSome = so4 at RX ⊢
        generalize leftN om L = N at hd4 RX hll
        have hd5 := ds_alloc hd4 #[.int .i64 x.id, .int .i64 x.off, .int .i64 x.len, .slice A4 x.data.length c4] 34
        have HD5 := Lib.hid hd5
        have c5 : (w4.alloc (.cells #[.int .i64 x.id, .int .i64 x.off, .int .i64 x.len, .slice A4 x.data.length c4] 34)).cell? ⟨qk, 5, none⟩ = some (.slice O y5.length co) := blk_cell (ds_blk hd5).1 5
        clear hd4 hd5 NX
        go_wp2_with fail
        have RX1 := Lib.hid (RX.out _ _ _ _ _ _ HD5.out)
        have hws4 : w4.heap.size < (w4.alloc (.cells #[.int .i64 x.id, .int .i64 x.off, .int .i64 x.len, .slice A4 x.data.length c4] 34)).heap.size := by rw [World.size_alloc]; omega
        generalize w4.alloc (.cells #[.int .i64 x.id, .int .i64 x.off, .int .i64 x.len, .slice A4 x.data.length c4] 34) = w5 at RX1 HD5 hws4 ⊢
        generalize w4.heap.size = q9 at RX1 HD5 hws4 ⊢
        refine RX1.out.mono ?_
        rintro e w6 ⟨⟨v6, rfl, A6, c6, rfl, hC6⟩, hd6⟩
        have hb6 := bl_all (Below.refl w6.heap.size w6) (.cells #[.int .i64 x.id, .int .i64 x.off, .int .i64 x.len, .slice A6 x.data.length c6] 62)
        obtain ⟨A4', c4', he4, hC4⟩ := ds_val hd6
        injection he4 with e1 e2 e3
        subst e1
        subst e3
        have hd7 := ds_below hd6 hb6
        have hn7 := new_at w6 (.cells #[.int .i64 x.id, .int .i64 x.off, .int .i64 x.len, .slice A6 x.data.length c6] 62)
        have hp7 := (ds_blk hd7).2
        have hcv1 : (convert 28 9 (.slice A4 x.data.length c4)).run Try.prog (w6.alloc (.cells #[.int .i64 x.id, .int .i64 x.off, .int .i64 x.len, .slice A6 x.data.length c6] 62)) = .ok (.string (strOfNums x.data)) (w6.alloc (.cells #[.int .i64 x.id, .int .i64 x.off, .int .i64 x.len, .slice A6 x.data.length c6] 62)) := Kd.C_string (P := Try.prog) (A := A4) (c := c4) Try.underlying28 Try.underlying5 Try.underlying9 (Kd.C_below hC4 hb6)
        have hcv2 : (convert 28 9 (.slice A6 x.data.length c6)).run Try.prog (w6.alloc (.cells #[.int .i64 x.id, .int .i64 x.off, .int .i64 x.len, .slice A6 x.data.length c6] 62)) = .ok (.string (strOfNums x.data)) (w6.alloc (.cells #[.int .i64 x.id, .int .i64 x.off, .int .i64 x.len, .slice A6 x.data.length c6] 62)) := Kd.C_string (P := Try.prog) (A := A6) (c := c6) Try.underlying28 Try.underlying5 Try.underlying9 (Kd.C_below hC6 hb6)
        have HBZ := Lib.hid (ds_bs hd7)
        have HP7 := Lib.hid hp7
        have HN7 := Lib.hid hn7
        have hNk : N.length ≤ k := by omega
        clear hC4 hC6 hb6 hd6 hd7 hn7 hp7 RX RX1 e2 HD5 hws4 c5
        go_upto_region 12 with (fail)
        generalize hwz : w6.alloc (.cells #[.int .i64 x.id, .int .i64 x.off, .int .i64 x.len, .slice A6 x.data.length c6] 62) = wz at hcv1 hcv2 HBZ HP7 HN7 ⊢
        generalize w6.heap.size = q11 at HN7 ⊢
        have g0 : wz.cell? ⟨q9, 0, none⟩ = some (.int .i64 x.id) := blk_cell HP7.out 0
        have g1 : wz.cell? ⟨q9, 1, none⟩ = some (.int .i64 x.off) := blk_cell HP7.out 1
        have g2 : wz.cell? ⟨q9, 2, none⟩ = some (.int .i64 x.len) := blk_cell HP7.out 2
        have g3 : wz.cell? ⟨q9, 3, none⟩ = some (.slice A4 x.data.length c4) := blk_cell HP7.out 3
        have f0 : wz.cell? ⟨q11, 0, none⟩ = some (.int .i64 x.id) := blk_cell HN7.out 0
        have f1 : wz.cell? ⟨q11, 1, none⟩ = some (.int .i64 x.off) := blk_cell HN7.out 1
        have f2 : wz.cell? ⟨q11, 2, none⟩ = some (.int .i64 x.len) := blk_cell HN7.out 2
        have f3 : wz.cell? ⟨q11, 3, none⟩ = some (.slice A6 x.data.length c6) := blk_cell HN7.out 3
        clear hwz
        go_upto_region 17 with (fail)
        clear g0 g1 g2 g3 f0 f1 f2 f3 hcv1 hcv2
        obtain ⟨A8, c8, h8, hg8⟩ := bs_cell HBZ.out
        have hbz0 := keep_at_below HBX.out (bs_bel HBZ.out) (by omega)
        have hQ : wz.cell? ⟨b, 0, none⟩ = some (.int .i64 so) ∧ wz.cell? ⟨b, 1, none⟩ = some (.int .i64 sl) ∧ wz.cell? ⟨b + 1 + 1, 0, none⟩ = some (.slice A8 N.length c8) ∧ BS W1 (b + 1) N wz := ⟨blk_cell hbz0 0, blk_cell hbz0 1, h8, HBZ.out⟩
        have i0 : wz.cell? ⟨b, 0, none⟩ = some (.int .i64 so) := hQ.1
        have i1 : wz.cell? ⟨b, 1, none⟩ = some (.int .i64 sl) := hQ.2.1
        have HK : Hid (∀ v v', (v.cell? ⟨b, 0, none⟩ = some (.int .i64 so) ∧ v.cell? ⟨b, 1, none⟩ = some (.int .i64 sl) ∧ v.cell? ⟨b + 1 + 1, 0, none⟩ = some (.slice A8 N.length c8) ∧ BS W1 (b + 1) N v) → Below v.heap.size v v' → (v'.cell? ⟨b, 0, none⟩ = some (.int .i64 so) ∧ v'.cell? ⟨b, 1, none⟩ = some (.int .i64 sl) ∧ v'.cell? ⟨b + 1 + 1, 0, none⟩ = some (.slice A8 N.length c8) ∧ BS W1 (b + 1) N v')) := Lib.hid (fun v v' h hb => held_keep (by omega) h hb)
        have hNl : (N.map spanOf).length ≤ 100000 := by rw [List.length_map]; omega
        have LE := Lib.hid (fun u (h : BS W1 (b + 1) N u) => bs_len h)
        have OV := Lib.hid (fun u (h : BS W1 (b + 1) N u) => bs_over so sl h)
        have RO := Lib.hid (fun u (h : BS W1 (b + 1) N u) => bs_rover so sl h)
        have SP := Lib.hid (fun u (h : BS W1 (b + 1) N u) => bs_spans h)
        have RS := Lib.hid (fun u (h : BS W1 (b + 1) N u) => bs_rspans h)
        have SC := Lib.hid (fun A A' c c' u h hc h' hc' => spans_c (N.map spanOf) A A' c c' u hNl h hc h' hc')
        generalize overN so sl N = ov at OV RO
        generalize N.map spanOf = SM at SP RS SC
        clear hbz0 hNl
        go_region_held3 (fun v => v.cell? ⟨b, 0, none⟩ = some (.int .i64 so) ∧ v.cell? ⟨b, 1, none⟩ = some (.int .i64 sl) ∧ v.cell? ⟨b + 1 + 1, 0, none⟩ = some (.slice A8 N.length c8) ∧ BS W1 (b + 1) N v)
          (first | (with_reducible assumption) | (refine HK.out wz _ ?_ (Below.drew (Below.refl _ _)); with_reducible assumption) | (apply HK.out <;> with_reducible assumption))
          (first
            | (go_at_call 17; with_reducible refine (LE.out _ ?_).mono ?_; (exact (And.right (And.right (And.right (by with_reducible assumption))))); rintro e w6 ⟨rfl, hb6⟩)
            | (go_at_call 28; with_reducible refine (OV.out _ ?_).mono ?_; (exact (And.right (And.right (And.right (by with_reducible assumption))))); rintro e w6 ⟨rfl, hb6⟩)
            | (go_at_call 29; with_reducible refine (RO.out _ ?_).mono ?_; (exact (And.right (And.right (And.right (by with_reducible assumption))))); rintro e w6 ⟨rfl, hb6⟩)
            | (go_at_call 31; with_reducible refine (SP.out _ ?_).mono ?_; (exact (And.right (And.right (And.right (by with_reducible assumption))))); rintro e w7 ⟨v7, rfl, hr7, hb7⟩; obtain ⟨A7, c7, rfl, hc7, hC7⟩ := Kd.R_reads hr7)
            | (go_at_call 32; with_reducible refine (RS.out _ ?_).mono ?_; (exact (And.right (And.right (And.right (by with_reducible assumption))))); rintro e w9 ⟨v9, rfl, hr9, hb9⟩; obtain ⟨A9, c9, rfl, hc9, hC9⟩ := Kd.R_reads hr9; have hC79 := Kd.C_below hC7 hb9)
            | (go_at_call 30; with_reducible refine (SC.out _ _ _ _ _ hC79 hc7 hC9 hc9).mono ?_; rintro e w10 ⟨rfl, hb10⟩))
        rename_i hH
        have HBE := Lib.hid hH.2.2.2
        clear hH hQ h8 i0 i1 HK
        go_wp2_with fail
        exact ⟨⟨k + 1, N, by omega, by go_num, by omega, HBE.out⟩, by simp [intOf]; omega⟩
      | false =>
        go_wp2_with fail
        have PU := Lib.hid (ds_push ⟨y1, y2, y3, y4⟩ B cb HAS.out (by omega) (by show y4.length ≤ _; omega) HZC1.out)
        have PR := Lib.hid (fun (u : World) L1 v d (h : DS W1 (b + 1) wr.heap.size (.cells #[.bool false, .int .i64 y1, .int .i64 y2, .int .i64 y3, .slice B y4.length cb, .slice O y5.length co] 31 (0, 0)) wr.heap.size (.cells #[.bool false, .int .i64 y1, .int .i64 y2, .int .i64 y3, .slice B y4.length cb, .slice O y5.length co] 31 (0, 0)) L1 L v d u) => ds_rpush ⟨y1, y2, y3, y4⟩ B cb h (by omega) (by show y4.length ≤ _; omega) (HZCA.out u (ds_bel h)))
        have hNk : (L ++ [(⟨y1, y2, y3, y4⟩ : Wr)]).length ≤ k + 1 := by rw [List.length_append]; show L.length + 1 ≤ k + 1; omega
        dsimp only at PU PR
        generalize L ++ [(⟨y1, y2, y3, y4⟩ : Wr)] = N at PU PR hNk
        generalize hqk : wr.heap.size = qk at HAS PU PR ⊢
        clear hqk
        refine PU.out.mono ?_
        rintro e w4 ⟨rfl, hd4⟩
        have PR1 := Lib.hid (PR.out _ _ _ _ hd4)
        have c1 : w4.cell? ⟨qk, 1, none⟩ = some (.int .i64 y1) := blk_cell (ds_blk hd4).1 1
        have c2 : w4.cell? ⟨qk, 2, none⟩ = some (.int .i64 y2) := blk_cell (ds_blk hd4).1 2
        have c3 : w4.cell? ⟨qk, 3, none⟩ = some (.int .i64 y3) := blk_cell (ds_blk hd4).1 3
        have c4 : w4.cell? ⟨qk, 4, none⟩ = some (.slice B y4.length cb) := blk_cell (ds_blk hd4).1 4
        clear hd4 PU PR
        go_wp2_with fail
        refine PR1.out.mono ?_
        rintro e wz ⟨rfl, hd5⟩
        have HBZ := Lib.hid (ds_bs hd5)
        clear hd5 PR1 c1 c2 c3 c4
        go_upto_region 17 with (fail)
        obtain ⟨A8, c8, h8, hg8⟩ := bs_cell HBZ.out
        have hbz0 := keep_at_below HBX.out (bs_bel HBZ.out) (by omega)
        have hQ : wz.cell? ⟨b, 0, none⟩ = some (.int .i64 so) ∧ wz.cell? ⟨b, 1, none⟩ = some (.int .i64 sl) ∧ wz.cell? ⟨b + 1 + 1, 0, none⟩ = some (.slice A8 N.length c8) ∧ BS W1 (b + 1) N wz := ⟨blk_cell hbz0 0, blk_cell hbz0 1, h8, HBZ.out⟩
        have i0 : wz.cell? ⟨b, 0, none⟩ = some (.int .i64 so) := hQ.1
        have i1 : wz.cell? ⟨b, 1, none⟩ = some (.int .i64 sl) := hQ.2.1
        have HK : Hid (∀ v v', (v.cell? ⟨b, 0, none⟩ = some (.int .i64 so) ∧ v.cell? ⟨b, 1, none⟩ = some (.int .i64 sl) ∧ v.cell? ⟨b + 1 + 1, 0, none⟩ = some (.slice A8 N.length c8) ∧ BS W1 (b + 1) N v) → Below v.heap.size v v' → (v'.cell? ⟨b, 0, none⟩ = some (.int .i64 so) ∧ v'.cell? ⟨b, 1, none⟩ = some (.int .i64 sl) ∧ v'.cell? ⟨b + 1 + 1, 0, none⟩ = some (.slice A8 N.length c8) ∧ BS W1 (b + 1) N v')) := Lib.hid (fun v v' h hb => held_keep (by omega) h hb)
        have hNl : (N.map spanOf).length ≤ 100000 := by rw [List.length_map]; omega
        have LE := Lib.hid (fun u (h : BS W1 (b + 1) N u) => bs_len h)
        have OV := Lib.hid (fun u (h : BS W1 (b + 1) N u) => bs_over so sl h)
        have RO := Lib.hid (fun u (h : BS W1 (b + 1) N u) => bs_rover so sl h)
        have SP := Lib.hid (fun u (h : BS W1 (b + 1) N u) => bs_spans h)
        have RS := Lib.hid (fun u (h : BS W1 (b + 1) N u) => bs_rspans h)
        have SC := Lib.hid (fun A A' c c' u h hc h' hc' => spans_c (N.map spanOf) A A' c c' u hNl h hc h' hc')
        generalize overN so sl N = ov at OV RO
        generalize N.map spanOf = SM at SP RS SC
        clear hbz0 hNl
        go_region_held3 (fun v => v.cell? ⟨b, 0, none⟩ = some (.int .i64 so) ∧ v.cell? ⟨b, 1, none⟩ = some (.int .i64 sl) ∧ v.cell? ⟨b + 1 + 1, 0, none⟩ = some (.slice A8 N.length c8) ∧ BS W1 (b + 1) N v)
          (first | (with_reducible assumption) | (refine HK.out wz _ ?_ (Below.drew (Below.refl _ _)); with_reducible assumption) | (apply HK.out <;> with_reducible assumption))
          (first
            | (go_at_call 17; with_reducible refine (LE.out _ ?_).mono ?_; (exact (And.right (And.right (And.right (by with_reducible assumption))))); rintro e w6 ⟨rfl, hb6⟩)
            | (go_at_call 28; with_reducible refine (OV.out _ ?_).mono ?_; (exact (And.right (And.right (And.right (by with_reducible assumption))))); rintro e w6 ⟨rfl, hb6⟩)
            | (go_at_call 29; with_reducible refine (RO.out _ ?_).mono ?_; (exact (And.right (And.right (And.right (by with_reducible assumption))))); rintro e w6 ⟨rfl, hb6⟩)
            | (go_at_call 31; with_reducible refine (SP.out _ ?_).mono ?_; (exact (And.right (And.right (And.right (by with_reducible assumption))))); rintro e w7 ⟨v7, rfl, hr7, hb7⟩; obtain ⟨A7, c7, rfl, hc7, hC7⟩ := Kd.R_reads hr7)
            | (go_at_call 32; with_reducible refine (RS.out _ ?_).mono ?_; (exact (And.right (And.right (And.right (by with_reducible assumption))))); rintro e w9 ⟨v9, rfl, hr9, hb9⟩; obtain ⟨A9, c9, rfl, hc9, hC9⟩ := Kd.R_reads hr9; have hC79 := Kd.C_below hC7 hb9)
            | (go_at_call 30; with_reducible refine (SC.out _ _ _ _ _ hC79 hc7 hC9 hc9).mono ?_; rintro e w10 ⟨rfl, hb10⟩))
        rename_i hH
        have HBE := Lib.hid hH.2.2.2
        clear hH hQ h8 i0 i1 HK
        go_wp2_with fail
        exact ⟨⟨k + 1, N, by omega, by go_num, by omega, HBE.out⟩, by simp [intOf]; omega⟩
    · have hlt' : ¬ (k : Int) < (l.length : Int) := by omega
      go_wp2_with fail
      refine (LV.out _).mono ?_
      rintro e w' ⟨rfl, hb3⟩
      go_wp2_with fail
      go_ret
      exact ⟨rfl, by rw [HB00.out]; exact FIN.out _ _ (bs_bel HBS.out) hb3 (by omega)⟩
end Go.Proofs.Ytoobbolaoldacaa.LaterW
