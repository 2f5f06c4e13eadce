/-
  The reference's Next.
-/
import Derived.Test.YtoobbolaoldacaaLaterX
namespace Go.Proofs.Ytoobbolaoldacaa.LaterW
open Go.RowKit Go.Proofs.Ytoobbolaoldacaa Go.Proofs.Ytoobbolaoldacaa.Later Go.Proofs.Ytoobbolaoldacaa.LaterSP Go.Proofs.Ytoobbolaoldacaa.LaterP Go.Proofs.Ytoobbolaoldacaa.RowOwn Go.Proofs.Ytoobbolaoldacaa.CloneB Go.Proofs.YtoobbolaoldacaaW.PrintWords Go.Proofs.YtoobbolaoldacaaW.PrintLast Go.Proofs.YtoobbolaoldacaaW.PrintMore
set_option linter.unusedVariables false
theorem ref_go (own : List S140) (hl : own.length ≤ 100) (x : Wr) : twainref23_Verdict.f 300 false own x.off x.len = some (if goN (own.map conv) x then 0 else 3) := by
  rw [ref_verdict_p false x.off x.len own hl 300 (by omega)]
  unfold goN vN
  rw [List.any_map]
  have : (fun y : S140 => clBlocks x.off x.len y.f0.f0 y.f0.f1 y.f1) = ((fun y : S38 => clBlocks x.off x.len y.f0.f0 y.f0.f1 y.f1) ∘ conv) := rfl
  rw [← this]
  cases own.any (fun y => clBlocks x.off x.len y.f0.f0 y.f0.f1 y.f1) <;> rfl
theorem cell_keep {w w1 : World} {p : Addr} {v : Value} (h : w.cell? p = some v) (hb : Below w.heap.size w w1) (hp : p.block < w.heap.size) : w1.cell? p = some v := (hb.cell hp).trans h
set_option maxRecDepth 100000 in
set_option maxHeartbeats 4000000 in
theorem RNext_c (g base : Nat) (L : List Wr) (S : Nat → Prop) (own : List S140) (Ao : Option Addr) (co : Nat) (w : World) (h : RQAt w g base L S) (hC : Kd.C k140 w Ao own.length own) (hco : own.length ≤ co) (hol : own.length ≤ 100) :
    Calls Try.prog 26 #[.pointer (some ⟨g, 0, none⟩), .slice Ao own.length co] w fun e w' => ∃ v, e = .returned (.tuple #[.agg #[.int .i64 (pickN (own.map conv) L).id, .int .i64 (pickN (own.map conv) L).off, .int .i64 (pickN (own.map conv) L).len, v], .bool (nextN (own.map conv) L).isSome]) ∧ Kd.R KB 5 w' base (fun k => S k ∨ w.heap.size ≤ k) v (pickN (own.map conv) L).data ∧ ∃ S', RQAt w' g base (leftN (own.map conv) L) S' ∧ (∀ k, S' k → S k ∨ w.heap.size ≤ k) ∧ OnlyS S w w' := by
  obtain ⟨A, c, c1, hc, hCL, _⟩ := rq_cells h
  have hgl := rw_lt h
  have hn := (rw_lt h).2.2
  have HCL := Lib.hid hCL
  have HCO := Lib.hid hC
  have HH := Lib.hid h
  have HGO := Lib.hid (fun x => ref_go own hol x)
  have hu := Try.underlying62
  have hnew := new_at w (.cells #[.int .i64 0, .int .i64 0, .int .i64 0, .slice none 0 0] 62)
  have hbl1 : Below w.heap.size w (w.alloc (.cells #[.int .i64 0, .int .i64 0, .int .i64 0, .slice none 0 0] 62)) := bl_all (Below.refl _ _) _
  have hs1 : (w.alloc (.cells #[.int .i64 0, .int .i64 0, .int .i64 0, .slice none 0 0] 62)).heap.size = w.heap.size + 1 := World.size_alloc _ _
  have HNEW := Lib.hid hnew
  have HBL1 := Lib.hid hbl1
  generalize own.map conv = om at HGO ⊢
  clear h hC hCL hnew hbl1
  go_enter Try.func26, Try.ntmps26
  go_wp2_with fail
  generalize w.alloc (.cells #[.int .i64 0, .int .i64 0, .int .i64 0, .slice none 0 0] 62) = W1 at HNEW HBL1 hs1 ⊢
  go_loopw [14] (fun i wr => ∃ (k : Nat), k ≤ L.length ∧ i = .int .i64 k ∧ Below W1.heap.size W1 wr ∧ ∀ j, ∀ hj : j < L.length, j < k → goN om L[j] = false) (fun i _ => L.length - (intOf i).toNat)
  case atStart => exact ⟨0, Nat.zero_le _, rfl, Below.refl _ _, fun j hj hk => by omega⟩
  case round =>
    obtain ⟨k, hk, rfl, hB, hno⟩ := hrel
    have hsr := hB.size
    have HB := Lib.hid hB
    have HNO := Lib.hid hno
    have hbw : Below w.heap.size w wr := bl_to HBL1.out hB (by omega)
    have HBW := Lib.hid hbw
    clear hB hno hbw
    by_cases hlt : k < L.length
    · have hlt' : (k : Int) < (L.length : Int) := by omega
      obtain ⟨v0, ok0, hh, h0, hS, hb, d0, hl, _⟩ := rw_below HH.out HBW.out
      have hv0 : v0 = .slice A L.length c := by
        have h2 := (HBW.out.cell (p := ⟨g, 0, none⟩) hgl.2.1).trans c1
        have h3 : wr.cell? ⟨g, 0, none⟩ = some v0 := blk_cell hh 0
        rw [h3] at h2
        injection h2
      subst hv0
      obtain ⟨ad, D, cd, ⟨cv, hev, hcv⟩, x0, x1, x2, x3, hRD⟩ := at_row h0 k hlt
      injection hev with h1 h2 h3
      subst h1
      subst h3
      have HHH := Lib.hid hh
      have HR0 := Lib.hid h0
      have HRD := Lib.hid hRD
      have HD0 := Lib.hid d0
      have HLL := Lib.hid hl
      clear hh h0 hRD d0 hl h2
      have VD := Lib.hid (fun (u : World) (hu : Below wr.heap.size wr u) => twainref23_Verdict.calls 300 false Ao co own L[k].off L[k].len _ u (Kd.C_below (Kd.C_below HCO.out HBW.out) hu) hco (HGO.out L[k]))
      obtain ⟨b, hgb⟩ : ∃ b, goN om L[k] = b := ⟨_, rfl⟩
      rw [hgb] at VD
      have HGB := Lib.hid hgb
      clear hgb
      cases b with
      | false =>
        generalize L[k].off = yo at x1 VD
        generalize L[k].len = yl at x2 VD
        generalize L[k].id = yi at x0
        generalize L[k].data.length = yd at x3
        go_wp2_with fail
        refine (VD.out _ (bl_all (Below.refl _ _) _)).mono ?_
        rintro e w4 ⟨rfl, hb4⟩
        go_wp2_with fail
        refine ⟨⟨k + 1, by omega, by go_num, bl_to (HB.out.alloc hsr _) hb4 (by simp; omega), fun j hj hjk => ?_⟩, by simp [intOf]; omega⟩
        by_cases he : j = k
        · subst he; exact HGB.out
        · exact HNO.out j hj (by omega)
      | true =>
        generalize hx : L[k] = x at x0 x1 x2 x3 VD
        have HX := Lib.hid hx
        clear hx
        have hnx := new_at wr (.cells #[.int .i64 x.id, .int .i64 x.off, .int .i64 x.len, .slice D x.data.length cd] 62)
        have HNX := Lib.hid hnx
        clear hnx
        go_wp2_with fail
        refine (VD.out _ (bl_all (Below.refl _ _) _)).mono ?_
        rintro e wc ⟨rfl, hbc⟩
        have hbwc : Below w.heap.size w wc := bl_to (bl_to HBW.out (bl_all (Below.refl _ _) _) (by omega)) hbc (by simp; omega)
        have hb1c : Below W1.heap.size W1 wc := bl_to (bl_to HB.out (bl_all (Below.refl _ _) _) (by omega)) hbc (by simp; omega)
        have hbrc : Below wr.heap.size wr wc := bl_to (bl_all (Below.refl _ _) _) hbc (by simp)
        have e1 := keep_at_all HNEW.out hb1c
        have e7 := keep_at_all HNX.out hbc
        have eg := keep_at_all HHH.out hbrc
        have hqs := hbrc.size
        have hsz7 := lt_at e7
        have hgr := lt_at HHH.out
        have HE1 := Lib.hid e1
        have HE7 := Lib.hid e7
        have HEG := Lib.hid eg
        have HBRC := Lib.hid hbrc
        have HBWC := Lib.hid hbwc
        obtain ⟨gr, had⟩ := row_head_g HR0.out (by omega)
        injection had with had
        have HAD := Lib.hid had
        have k1 : wc.cell? ⟨g, 0, none⟩ = some (.slice (some ad) L.length c) := blk_cell eg 0
        have q1 : (k : Int) ≤ (c : Int) := by omega
        have q2 : (k : Int) + 1 ≤ (L.length : Int) := by omega
        have q3 : (0 : Int) ≤ (k : Int) + 1 := by omega
        have q4 : (0 : Int) ≤ (k : Int) := by omega
        have hwr : IntKind.i64.wrap ((k : Int) + 1) = (k : Int) + 1 := by have h := IntKind.wrap_i64 ((k : Int) + 1); rw [h]; omega
        have hnt : ((k : Int) + 1).toNat = k + 1 := by omega
        have HMADEH := Lib.hid (show ∀ u, Below wc.heap.size wc u → Made KW u base (fun q => ok0 q ∧ q < wc.heap.size) (some ad) L.length L from fun u hu => by
          have hrow : Row KW 62 u base (fun q => ok0 q ∧ base ≤ q ∧ q < wr.heap.size) (.slice (some ad) L.length c) L := row_step (row_bound HR0.out) (fun q hq hlt => (hu.block q (by omega)).trans (HBRC.out.block q hlt))
          obtain ⟨A', c', he, hm⟩ := row_made hrow
          injection he with h1 h2 h3
          rw [h1]
          exact made_mono hm (fun q hq => ⟨hq.1.1, by omega⟩))
        have EMBH := Lib.hid (fun (u : World) (hu : Below wc.heap.size wc u) (v : Value) (hv : Kd.R KW 62 u wc.heap.size (fun q => wc.heap.size ≤ q) v []) => (show Row KW 62 u base (fun q => (ok0 q ∧ q < wc.heap.size) ∨ wc.heap.size ≤ q) v [] from .inl (Kd.R_lower (Kd.R_mono hv (fun q hq => .inr hq)) (by omega))))
        generalize hqb : wr.heap.size = qb at HE7 ⊢
        have HQB := Lib.hid hqb
        have HL6 : Hid (([] ++ L.take k).length = k) := Lib.hid (by rw [List.nil_append, List.length_take]; omega)
        clear hbc hb1c hbwc hbrc x0 x1 x2 x3 hqb e1 e7 eg had
        go_upto_region 7 with (first
          | ((with_reducible refine gate_dst (N := 24) rfl ?_); (try (refine gate_guard (by rfl) ?_; dsimp only)); refine Kd.R_lit KW _ 62 ?hg (N := 24) ?hd (xs := ([] : List Wr)) (inner := []) (ok := fun q => wc.heap.size ≤ q) (okp := fun q => wc.heap.size ≤ q) ?hr ?hp (fun _ hk => hk) ?hfr (Below.refl _ _) (Nat.le_refl _) (by simp) ?_; (case hd => rfl); (case hg => rfl); (case hr => first | (go_simp; done) | (go_simp; rfl)); (case hp => exact (Reps.none _ _)); (case hfr => exact Nat.le_refl _); intro v5 w5 ho5 hb5 hg5 hnew5; have hv5 := Kd.R_base ho5; have HO5 := Lib.hid (EMBH.out w5 hb5 v5 ho5); have HB5 := Lib.hid hb5; have hs5 := hb5.size; have hq5 : w5.cell? ⟨g, 0, none⟩ = some (.slice (some ad) L.length c) := cell_keep k1 hb5 (by show g < wc.heap.size; omega); obtain ⟨A5, c5, rfl⟩ := Kd.R_slice ho5; have HV5 := Lib.hid hv5; clear ho5 hb5 hg5 hnew5 hv5)
          | ((with_reducible refine gate_builtin (b := .append) (xs := #[.tmp 24, .tmp 30]) rfl ?_); at_builtin; refine row_append_list (d := KW) (base := base) (w := w5) (ok := fun q => (ok0 q ∧ q < wc.heap.size) ∨ wc.heap.size ≤ q) (okp := fun q => ok0 q ∧ q < wc.heap.size) (xs := []) (ys := L.take k) (m := k) (c2 := c) (A := some ad) rfl (.tmp 24) (.tmp 30) 58 62 (.agg #[.int .i64 0, .int .i64 0, .int .i64 0, .slice none 0 0]) 48 rfl Try.underlying58 info62 rfl (by decide) (by omega) rfl ?bx HO5.out (made_take (HMADEH.out w5 HB5.out) (by omega)) ?bp (fun q hq => .inr (by omega)) (by omega) ?bl ?_; (case bx => first | rfl | (simp [Act.eval, Act.put]; done)); (case bp => exact fun q hq => ⟨.inl hq, fun he => by have := HV5.out q he.symm; omega⟩); (case bl => simp only [List.length_nil]; omega); intro v6 w6 hrow6 hgr6 hat6; have hb6 : Below wc.heap.size wc w6 := HB5.out.grown hgr6 (by omega) HV5.out; have HB6 := Lib.hid hb6; have hs6 := hb6.size; have hq6 : w6.cell? ⟨g, 0, none⟩ = some (.slice (some ad) L.length c) := cell_keep k1 hb6 (by show g < wc.heap.size; omega); have hv6 : ∀ q, v6.ownBlock = some q → wc.heap.size ≤ q := (fun q hq => by (rcases hat6 with h | ⟨b', h, hle⟩; (exact HV5.out q (h ▸ hq)); (rw [h] at hq; injection hq with hq; omega))); obtain ⟨A6, c6, he6, _, _⟩ := row_reads hrow6; rw [HL6.out] at he6; subst he6; have HV6 := Lib.hid hv6; have HO6 := Lib.hid hrow6; clear hrow6 hgr6 hat6 hb6 hv6)
          | ((with_reducible refine gate_builtin (b := .append) (xs := #[.tmp 32, .tmp 39]) rfl ?_); at_builtin; refine row_append_list (d := KW) (base := base) (w := w6) (ok := fun q => (ok0 q ∧ q < wc.heap.size) ∨ wc.heap.size ≤ q) (okp := fun q => ok0 q ∧ q < wc.heap.size) (xs := [] ++ L.take k) (ys := L.drop (k + 1)) (m := L.length - (k + 1)) (c2 := c - (k + 1)) (A := if c = k + 1 then some ad else some (ad.add ((k + 1) * 4))) rfl (.tmp 32) (.tmp 39) 58 62 (.agg #[.int .i64 0, .int .i64 0, .int .i64 0, .slice none 0 0]) 48 rfl Try.underlying58 info62 rfl (by decide) (by omega) ?cs ?cx HO6.out ?cm ?cp (fun q hq => .inr (by omega)) (by omega) ?cl ?_; (case cs => first | rfl | (simp [Act.eval, Act.put]; done)); (case cx => first | rfl | (simp [Act.eval, Act.put]; done)); (case cm => exact (made_drop (HMADEH.out w6 HB6.out) (i := k + 1) (c := c) (by omega) (by omega))); (case cp => exact fun q hq => ⟨.inl hq, fun he => by have := HV6.out q he.symm; omega⟩); (case cl => simp only [List.nil_append, List.length_take]; omega); intro v7 w7 hrow7 hgr7 hat7; have hb7 : Below wc.heap.size wc w7 := HB6.out.grown hgr7 (by omega) HV6.out; have HB7 := Lib.hid hb7; have hs7 := hb7.size; have hq7 : w7.cell? ⟨g, 0, none⟩ = some (.slice (some ad) L.length c) := cell_keep k1 hb7 (by show g < wc.heap.size; omega); have hf7 : w7.frozen? ⟨g, 0, none⟩ = false := blk_frozen (keep_at_all HEG.out hb7) 0; obtain ⟨A7, c7, he7, _, _⟩ := row_reads hrow7; generalize ([] ++ L.take k ++ L.drop (k + 1)).length = n7 at he7; subst he7; have HO7 := Lib.hid hrow7; clear hrow7 hgr7 hat7 hb7))
        generalize (if c = k + 1 then some ad else some (ad.add ((k + 1) * 4))) = A9
        go_upto_region 8 with (fail)
        have hnk := HNEW.out
        have hgn := hgl.2.1
        have t1 := far_at (keep_at_all HE1.out HB7.out) (p := ⟨g, 0, none⟩) (by show w.heap.size ≠ g; omega) (.slice A7 n7 c7)
        have t3 := far_at (keep_at_all HE7.out HB7.out) (p := ⟨g, 0, none⟩) (by show qb ≠ g; have := HQB.out; omega) (.slice A7 n7 c7)
        have hfin := HO7.out
        rw [List.nil_append, ← List.eraseIdx_eq_take_drop_succ] at hfin
        obtain ⟨S6, p1, p2, p3⟩ := rw_put (g := g) (base := base) (S := S) (w := wr) (W := w7) (w1 := w7) (row := none) (j := 0) (hd := hdR) (e := 62) (t := 60) (fun _ _ => rfl) (by decide) HHH.out hS hb HD0.out HLL.out (bl_to HBRC.out HB7.out (by omega)) (World.grownBy.refl w7 none) (fun q hq => by cases hq) (fun q hq => by rcases hq with hq | hq; exact .inl hq.1; exact .inr (by omega)) hfin (by have := List.length_eraseIdx_le L k; omega)
        have hO6 : OnlyS (fun q => q = g) wr (w7.setCell ⟨g, 0, none⟩ (.slice A7 n7 c7)) := (OnlyS.of_below (bl_to HBRC.out HB7.out (by omega))).set _ _ (.inl rfl)
        generalize w7.setCell ⟨g, 0, none⟩ (.slice A7 n7 c7) = w8 at p1 p3 t1 t3 hO6 ⊢
        have y0 : w8.cell? ⟨qb, 0, none⟩ = some (.int .i64 x.id) := blk_cell t3 0
        have y1 : w8.cell? ⟨qb, 1, none⟩ = some (.int .i64 x.off) := blk_cell t3 1
        have y2 : w8.cell? ⟨qb, 2, none⟩ = some (.int .i64 x.len) := blk_cell t3 2
        have y3 : w8.cell? ⟨qb, 3, none⟩ = some (.slice D x.data.length cd) := blk_cell t3 3
        have z0 : w8.cell? ⟨w.heap.size, 0, none⟩ = some (.int .i64 0) := blk_cell t1 0
        have z1 : w8.cell? ⟨w.heap.size, 1, none⟩ = some (.int .i64 0) := blk_cell t1 1
        have z2 : w8.cell? ⟨w.heap.size, 2, none⟩ = some (.int .i64 0) := blk_cell t1 2
        have z3 : w8.cell? ⟨w.heap.size, 3, none⟩ = some (.slice none 0 0) := blk_cell t1 3
        have f0 : w8.frozen? ⟨w.heap.size, 0, none⟩ = false := blk_frozen t1 0
        have f1 : w8.frozen? ⟨w.heap.size, 1, none⟩ = false := blk_frozen t1 1
        have f2 : w8.frozen? ⟨w.heap.size, 2, none⟩ = false := blk_frozen t1 2
        have f3 : w8.frozen? ⟨w.heap.size, 3, none⟩ = false := blk_frozen t1 3
        have HT1 := Lib.hid t1
        have HP1 := Lib.hid p1
        have HP2 := Lib.hid p2
        have HP3 := Lib.hid p3
        have HO8 := Lib.hid hO6
        clear t1 t3 p1 p2 p3 hO6 hfin hq5 hq6 hq7 hf7 k1
        go_wp2_with fail
        have u1 := set_at (set_at (set_at (set_at HT1.out 0 (.int .i64 x.id)) 1 (.int .i64 x.off)) 2 (.int .i64 x.len)) 3 (.slice D x.data.length cd)
        have hO7 : OnlyS (fun q => q = w.heap.size) w8 ((((w8.setCell ⟨w.heap.size, 0, none⟩ (.int .i64 x.id)).setCell ⟨w.heap.size, 1, none⟩ (.int .i64 x.off)).setCell ⟨w.heap.size, 2, none⟩ (.int .i64 x.len)).setCell ⟨w.heap.size, 3, none⟩ (.slice D x.data.length cd)) := by
          refine OnlyS.set (OnlyS.set (OnlyS.set (OnlyS.set (OnlyS.refl _ _) _ _ (.inl ?_)) _ _ (.inl ?_)) _ _ (.inl ?_)) _ _ (.inl ?_) <;> rfl
        generalize (((w8.setCell ⟨w.heap.size, 0, none⟩ (.int .i64 x.id)).setCell ⟨w.heap.size, 1, none⟩ (.int .i64 x.off)).setCell ⟨w.heap.size, 2, none⟩ (.int .i64 x.len)).setCell ⟨w.heap.size, 3, none⟩ (.slice D x.data.length cd) = w9 at u1 hO7 ⊢
        have g0 : w9.cell? ⟨w.heap.size, 0, none⟩ = some (.int .i64 x.id) := blk_cell u1 0
        have g1 : w9.cell? ⟨w.heap.size, 1, none⟩ = some (.int .i64 x.off) := blk_cell u1 1
        have g2 : w9.cell? ⟨w.heap.size, 2, none⟩ = some (.int .i64 x.len) := blk_cell u1 2
        have g3 : w9.cell? ⟨w.heap.size, 3, none⟩ = some (.slice D x.data.length cd) := blk_cell u1 3
        have hsome := nextN_some hlt HGB.out HNO.out
        have hp : pickN om L = x := by unfold pickN; rw [hsome]; show L.getD k noWr = x; rw [List.getD_eq_getElem?_getD, List.getElem?_eq_getElem hlt, ← HX.out]; rfl
        have hl : leftN om L = L.eraseIdx k := by unfold leftN; rw [hsome]
        have hs : (nextN om L).isSome = true := by rw [hsome]; rfl
        have hO89 : OnlyS (fun q => q = g ∨ q = w.heap.size) wr w9 := (OnlyS.trans (S := fun q => q = g ∨ q = w.heap.size) ⟨HO8.out.os, HO8.out.tape, HO8.out.output, HO8.out.size, fun q hq hn => HO8.out.block q hq (fun h => hn (.inl h))⟩ hO7 (fun q hq => .inl (.inr hq)))
        refine bodyPost_ret (v := .tuple #[.agg #[.int .i64 x.id, .int .i64 x.off, .int .i64 x.len, .slice D x.data.length cd], .bool true]) (by simp [results, Try.results26, go_sem, g0, g1, g2, g3]) rfl ?_
        rw [hp, hl, hs]
        refine ⟨.slice D x.data.length cd, rfl, ?_, S6, ?_, fun q hq => ?_, ?_⟩
        · refine Kd.R_mono (Kd.R_step (by rw [← HX.out]; have h := HRD.out; rw [HX.out] at h ⊢; exact h) (fun q hq hlt => hO89.block q hlt (fun ht => ?_))) (fun q hq => .inl (HD0.out q hq).1)
          have h1 := (rw_S HH.out q (HD0.out q hq).1).2
          have h2 := (HD0.out q hq).2
          rcases ht with rfl | rfl
          · exact h2 rfl
          · omega
        · refine rw_only HP1.out hO7 (fun q hq ht => ?_)
          subst ht
          rcases HP2.out _ hq with h1 | h1
          · have := (rw_S HH.out _ h1).2
            omega
          · omega
        · rcases HP2.out q hq with h1 | h1
          · exact .inl h1
          · exact .inr (by omega)
        · exact ((OnlyS.of_below (S := S) HBW.out).trans HP3.out (fun q hq => .inl hq)).trans hO7 (fun q hq => by subst hq; exact .inr (Nat.le_refl _))
    · have hlt' : ¬ (k : Int) < (L.length : Int) := by omega
      have hnone : nextN om L = none := nextN_none (fun j hj => HNO.out j hj (by omega))
      have hp : pickN om L = noWr := by unfold pickN; rw [hnone]
      have hl : leftN om L = L := by unfold leftN; rw [hnone]
      have hs : (nextN om L).isSome = false := by rw [hnone]; rfl
      have HP := Lib.hid hp
      have HL := Lib.hid hl
      have HS := Lib.hid hs
      clear hnone hp hl hs
      have d1 := keep_at_all HNEW.out HB.out
      have q10 : wr.cell? ⟨w.heap.size, 0, none⟩ = some (.int .i64 0) := blk_cell d1 0
      have q11 : wr.cell? ⟨w.heap.size, 1, none⟩ = some (.int .i64 0) := blk_cell d1 1
      have q12 : wr.cell? ⟨w.heap.size, 2, none⟩ = some (.int .i64 0) := blk_cell d1 2
      have q13 : wr.cell? ⟨w.heap.size, 3, none⟩ = some (.slice none 0 0) := blk_cell d1 3
      have f10 : wr.frozen? ⟨w.heap.size, 0, none⟩ = false := blk_frozen d1 0
      have f11 : wr.frozen? ⟨w.heap.size, 1, none⟩ = false := blk_frozen d1 1
      have f12 : wr.frozen? ⟨w.heap.size, 2, none⟩ = false := blk_frozen d1 2
      have f13 : wr.frozen? ⟨w.heap.size, 3, none⟩ = false := blk_frozen d1 3
      have D1 := Lib.hid d1
      clear d1
      go_wp2_with fail
      have e1 := set_at (set_at (set_at (set_at D1.out 0 (.int .i64 0)) 1 (.int .i64 0)) 2 (.int .i64 0)) 3 (.slice none 0 0)
      have hO : OnlyS (fun _ => False) w ((((wr.setCell ⟨w.heap.size, 0, none⟩ (.int .i64 0)).setCell ⟨w.heap.size, 1, none⟩ (.int .i64 0)).setCell ⟨w.heap.size, 2, none⟩ (.int .i64 0)).setCell ⟨w.heap.size, 3, none⟩ (.slice none 0 0)) := by
        refine OnlyS.set (OnlyS.set (OnlyS.set (OnlyS.set (OnlyS.of_below HBW.out) _ _ (.inr ?_)) _ _ (.inr ?_)) _ _ (.inr ?_)) _ _ (.inr ?_) <;> exact Nat.le_refl _
      generalize (((wr.setCell ⟨w.heap.size, 0, none⟩ (.int .i64 0)).setCell ⟨w.heap.size, 1, none⟩ (.int .i64 0)).setCell ⟨w.heap.size, 2, none⟩ (.int .i64 0)).setCell ⟨w.heap.size, 3, none⟩ (.slice none 0 0) = W6 at e1 hO ⊢
      have g0 : W6.cell? ⟨w.heap.size, 0, none⟩ = some (.int .i64 0) := blk_cell e1 0
      have g1 : W6.cell? ⟨w.heap.size, 1, none⟩ = some (.int .i64 0) := blk_cell e1 1
      have g2 : W6.cell? ⟨w.heap.size, 2, none⟩ = some (.int .i64 0) := blk_cell e1 2
      have g3 : W6.cell? ⟨w.heap.size, 3, none⟩ = some (.slice none 0 0) := blk_cell e1 3
      refine bodyPost_ret (v := .tuple #[.agg #[.int .i64 0, .int .i64 0, .int .i64 0, .slice none 0 0], .bool false]) (by simp [results, Try.results26, go_sem, g0, g1, g2, g3]) rfl ?_
      rw [HP.out, HL.out, HS.out]
      exact ⟨_, rfl, Kd.R_nil _ _ _ _ _, S, rw_only HH.out hO (fun _ _ hf => hf), fun k hk => .inl hk, ⟨hO.os, hO.tape, hO.output, hO.size, fun k hk _ => hO.block k hk (fun hf => hf)⟩⟩
end Go.Proofs.Ytoobbolaoldacaa.LaterW
