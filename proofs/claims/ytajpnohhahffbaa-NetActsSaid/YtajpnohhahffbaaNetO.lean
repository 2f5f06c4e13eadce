/-
  The walk of NetOnly.
-/
import Derived.Test.YtajpnohhahffbaaNetL
namespace Go.Proofs.Ytajpnohhahffbaa.NetW
open Go.RowKit Go.Proofs.Ytajpnohhahffbaa Go.Proofs.Ytajpnohhahffbaa.RowOwn Go.Proofs.Ytajpnohhahffbaa.CloneB Go.Proofs.YtajpnohhahffbaaW.PrintWords Go.Proofs.YtajpnohhahffbaaW.PrintMore
set_option linter.unusedVariables false
structure S63 where
  f0 : Int
  f1 : Int
  f2 : Int
  f3 : (List Int)
def k63 : Kd S63 := Kd.iso (Kd.pair (Kd.int .i64) (Kd.pair (Kd.int .i64) (Kd.pair (Kd.int .i64) (Kd.slice 5 (Kd.int .u8))))) (fun x : S63 => (x.f0, x.f1, x.f2, x.f3))
theorem k63_open {w : World} {x : S63} {cs : List Value} (h : k63.K w x cs) : ∃ A3 c3, cs = [.int .i64 x.f0, .int .i64 x.f1, .int .i64 x.f2, .slice A3 x.f3.length c3] ∧ x.f3.length ≤ c3 ∧ (Kd.int .u8).C w A3 x.f3.length x.f3 := by
  obtain ⟨_, _, rfl, rfl, ⟨_, _, rfl, rfl, ⟨_, _, rfl, rfl, ⟨A3, c3, rfl, l3, g3⟩⟩⟩⟩ := h
  exact ⟨A3, c3, rfl, l3, g3⟩
theorem at_act {w : World} {A : Option Addr} {n : Nat} {xs : List S63} (h : Kd.C k63 w A n xs) (i : Nat) (hi : i < xs.length) :
    ∃ ad A0 c0, A = some ad ∧ w.cell? (ad.add (i * 4)) = some (.int .i64 xs[i].f0) ∧ w.cell? ⟨(ad.add (i * 4)).block, (ad.add (i * 4)).off + 1, none⟩ = some (.int .i64 xs[i].f1) ∧ w.cell? ⟨(ad.add (i * 4)).block, (ad.add (i * 4)).off + 2, none⟩ = some (.int .i64 xs[i].f2) ∧ w.cell? ⟨(ad.add (i * 4)).block, (ad.add (i * 4)).off + 3, none⟩ = some (.slice A0 xs[i].f3.length c0) ∧ Kd.C KB w A0 xs[i].f3.length xs[i].f3 := by
  have hn : xs.length = n := h.1
  obtain ⟨ad, c, e, _, hK, hc0⟩ := Kd.C_get h (⟨0, 0, 0, []⟩ : S63) (i : Int) (by omega) (by omega)
  rw [Int.toNat_natCast] at hK hc0
  rw [List.getD_eq_getElem?_getD, List.getElem?_eq_getElem hi] at hK
  have hc : ∀ j u, c[j]? = some u → w.cell? (ad.add (i * 4 + j)) = some u := hc0
  obtain ⟨A0, c0, rfl, _, hC⟩ := k63_open hK
  exact ⟨ad, A0, c0, e, hc 0 _ rfl, by rw [← add_field _ _ 1 (by omega)]; exact hc 1 _ rfl, by rw [← add_field _ _ 2 (by omega)]; exact hc 2 _ rfl, by rw [← add_field _ _ 3 (by omega)]; exact hc 3 _ rfl, hC⟩
theorem put1 (b : List Int) (L1 : List (List Int)) (h : L1.length < 4096) : putN 1 b [] L1 = (0, [], L1 ++ [b]) := by
  unfold putN dirL
  rw [if_neg (by omega), if_neg (show ¬ (1 : Int) = 0 by omega), if_neg (by omega), if_neg (show ¬ (1 : Int) = 0 by omega), if_neg (show ¬ (1 : Int) = 0 by omega)]
theorem first_cell {w : World} {base : Nat} {A : Option Addr} {c : Nat} {b : List Int} (h : Kd.R KB 5 w base (fun _ => True) (.slice A b.length c) b) (hp : 0 < b.length) :
    ∃ bo x, A = some ⟨bo, 0, none⟩ ∧ base ≤ bo ∧ bo < w.heap.size ∧ w.cell? ⟨bo, 0, none⟩ = some (.int .u8 x) ∧ w.frozen? ⟨bo, 0, none⟩ = false := by
  obtain ⟨_, _, hC⟩ := Kd.R_reads' h
  obtain ⟨ad, rfl, _⟩ := hC.2.2 hp
  obtain ⟨bo, rfl⟩ := Kd.R_head h
  obtain ⟨c', hcl, hM, hcell, hfr⟩ := Kd.R_elem h (0 : Int) 0 (by omega) (by omega)
  have hM' : c' = [Value.int .u8 (b.getD (0 : Int).toNat 0)] := hM
  subst hM'
  have h1 := hcell 0 _ rfl
  have h2 := hfr 0
  exact ⟨bo, _, rfl, Kd.R_base h bo rfl, Kd.R_lt h bo rfl, by simpa [Kd.int, Kd.scalar] using h1, by simpa [Kd.int, Kd.scalar] using h2⟩
set_option maxHeartbeats 4000000 in
set_option maxRecDepth 100000 in
theorem only_walk (A : Option Addr) (cap : Nat) (l : List S63) (more : Int) (w : World) (hr : Kd.C k63 w A l.length l) :
    Calls Try.prog 9 #[.slice A l.length cap, .int .i64 more] w fun e w' => e = .returned (.bool true) ∧ Below w.heap.size w w' := by
  have LV := Lib.hid (lives33)
  by_cases hgo : 60 < l.length ∨ more < 0 ∨ 2 < more
  · by_cases h1 : 60 < l.length
    · have h1' : (60 : Int) < (l.length : Int) := by omega
      clear hgo
      go_enter Try.func9, Try.ntmps9
      go_wp2_with fail
      refine (LV.out _).mono ?_
      rintro e w' ⟨rfl, hb⟩
      go_wp2_with fail
      go_ret
      exact ⟨rfl, hb⟩
    · have h1' : ¬ (60 : Int) < (l.length : Int) := by omega
      by_cases h2 : more < 0
      · clear hgo
        go_enter Try.func9, Try.ntmps9
        go_wp2_with fail
        refine (LV.out _).mono ?_
        rintro e w' ⟨rfl, hb⟩
        go_wp2_with fail
        go_ret
        exact ⟨rfl, hb⟩
      · have h3 : 2 < more := by omega
        clear hgo
        go_enter Try.func9, Try.ntmps9
        go_wp2_with fail
        refine (LV.out _).mono ?_
        rintro e w' ⟨rfl, hb⟩
        go_wp2_with fail
        go_ret
        exact ⟨rfl, hb⟩
  have h1' : ¬ (60 : Int) < (l.length : Int) := by omega
  have h2' : ¬ more < 0 := by omega
  have h3' : ¬ 2 < more := by omega
  clear hgo
  have N := Lib.hid (New_c w)
  have PT := Lib.hid (fun g base d L0 L1 S A c b u (h : NetAt u g base L0 L1 S) hl hr => Put_c g base d L0 L1 S A c b u h hl hr)
  have TK := Lib.hid (fun g base d i L0 L1 S u (h : NetAt u g base L0 L1 S) => Take_c g base d i L0 L1 S u h)
  have DB := Lib.hid (fun g base d i L0 L1 S u (h : NetAt u g base L0 L1 S) => Double_c g base d i L0 L1 S u h)
  have LN := Lib.hid (fun g base d L0 L1 S u (h : NetAt u g base L0 L1 S) => Len_c g base d L0 L1 S u h)
  have HR := Lib.hid hr
  clear hr
  have hu := Try.underlying63
  generalize hg : w.heap.size = g at N
  go_enter Try.func9, Try.ntmps9
  go_wp2_with fail
  refine N.out.mono ?_
  rintro e w1 ⟨rfl, hw1⟩
  have hn1 : NetAt w1 g g [] [] (fun k => k = g) := new_net w1 g (by rw [← hw1, ← hg]; exact new_at _ _)
  have HB1 : Hid (Below g w w1) := Lib.hid (by rw [← hw1, ← hg]; exact bl_all (Below.refl _ w) _)
  clear hw1 N
  go_wp2_with fail
  go_loopw [29] (fun i wr => ∃ (k : Nat) (S : Nat → Prop), k ≤ l.length ∧ i = .int .i64 k ∧ NetAt wr g g [] ((l.take k).map (·.f3)) S ∧ Below g w wr)
    (fun i _ => l.length - (intOf i).toNat)
  case atStart => exact ⟨0, _, Nat.zero_le _, rfl, hn1, HB1.out⟩
  case round =>
    obtain ⟨k, S, hk, rfl, hN, hB⟩ := hrel
    have HN := Lib.hid hN
    have HB := Lib.hid hB
    clear hN hB hn1 HB1
    by_cases hlt : k < l.length
    · have hlt' : (k : Int) < (l.length : Int) := by omega
      have hC := Kd.C_below HR.out (by rw [hg]; exact HB.out)
      obtain ⟨ad, A0, c0, rfl, x0, x1, x2, x3, hCB⟩ := at_act hC k hlt
      have HCB := Lib.hid hCB
      have htk : (l.take (k + 1)).map (·.f3) = (l.take k).map (·.f3) ++ [l[k].f3] := by
        rw [List.take_add_one, List.getElem?_eq_getElem hlt, List.map_append]; rfl
      have HT := Lib.hid htk
      clear hC hCB htk
      generalize hb : l[k].f3 = b at x3 HCB HT
      generalize l[k].f0 = y0 at x0
      generalize l[k].f1 = y1 at x1
      generalize l[k].f2 = y2 at x2
      have hact : Below wr.heap.size wr (wr.alloc (.cells #[.int .i64 y0, .int .i64 y1, .int .i64 y2, .slice A0 b.length c0] 63)) := bl_all (Below.refl _ _) _
      have HAC := Lib.hid hact
      clear hact
      by_cases hb1 : b.length < 1
      · have q1 : (b.length : Int) < 1 := by omega
        go_wp2_with fail
        refine (LV.out _).mono ?_
        rintro e w' ⟨rfl, hb3⟩
        go_wp2_with fail
        go_ret
        exact ⟨rfl, bl_to (bl_to HB.out HAC.out (by have := net_lt HN.out; omega)) hb3 (by have := net_lt HN.out; have := HAC.out.size; omega)⟩
      have q1 : ¬ (b.length : Int) < 1 := by omega
      have q1b : decide ((b.length : Int) < 1) = false := decide_eq_false q1
      by_cases hb2 : 300 < b.length
      · have q2 : (300 : Int) < (b.length : Int) := by omega
        go_wp2_with fail
        refine (LV.out _).mono ?_
        rintro e w' ⟨rfl, hb3⟩
        go_wp2_with fail
        go_ret
        exact ⟨rfl, bl_to (bl_to HB.out HAC.out (by have := net_lt HN.out; omega)) hb3 (by have := net_lt HN.out; have := HAC.out.size; omega)⟩
      have q2 : ¬ (300 : Int) < (b.length : Int) := by omega
      have q2b : decide ((300 : Int) < (b.length : Int)) = false := decide_eq_false q2
      go_wp2_with (first
        | ((with_reducible refine gate_dst (N := 44) rfl ?_); (try (refine gate_guard (by rfl) ?_; dsimp only)); generalize hw2 : wr.alloc (.cells #[.int .i64 y0, .int .i64 y1, .int .i64 y2, .slice A0 b.length c0] 63) = w2; have HAC2 : Hid (Below wr.heap.size wr w2) := Lib.hid (by rw [← hw2]; exact HAC.out); have hk3 : w2.cell? ⟨wr.heap.size, 3, none⟩ = some (.slice A0 b.length c0) := (by rw [← hw2]; exact blk_cell (new_at _ _) 3); clear hw2; refine Kd.R_lit (Kd.int .u8) _ 5 ?hg (N := 44) ?hd (xs := ([] : List Int)) (inner := []) (ok := fun _ => True) (okp := fun _ => True) ?hr ?hp (fun _ hk => hk) trivial (Below.refl _ _) (Nat.le_refl _) (by simp) ?_; (case hd => rfl); (case hg => rfl); (case hr => first | (go_simp; done) | (go_simp; rfl)); (case hp => exact (Reps.none _ _)); intro v5 w5 ho5 hb5 hg5 hnew5; have HO5 := Lib.hid ho5; have HB5 := Lib.hid hb5; have hq5 : w5.cell? ⟨wr.heap.size, 3, none⟩ = some (.slice A0 b.length c0) := (cell_kept hk3 (Kept.of_below hb5 (fun _ => False)) (fun h => h)); clear hg5 hnew5 ho5 hb5)
        | ((with_reducible refine gate_builtin (b := .append) (xs := #[.tmp 44, .tmp 46]) rfl ?_); at_builtin; refine Kd.R_append_rows (Kd.int .u8) (w0 := w2) w2.heap.size rfl (.tmp 44) (.tmp 46) 45 5 (.int .u8 0) 1 rfl Try.underlying45 info_u8 rfl (by decide) (by omega) v5 [] b _ _ _ (fun _ => True) (fun _ => False) rfl rfl ?aO ?aR (fun _ _ h => h) (fun _ h => h.elim) ?aF ?aB ?aS ?aL ?_; (case aR => exact Kd.C_below (Kd.C_below HCB.out HAC2.out) HB5.out); (case aB => exact HB5.out); (case aF => exact (fun _ _ => trivial)); (case aO => exact HO5.out); (case aS => exact HB5.out.size); (case aL => simp; omega); intro v7 w7 ho7 hb7 hg7 hat7; rw [List.nil_append] at ho7; obtain ⟨A7, c7, rfl, hc7, hC7⟩ := Kd.R_reads ho7; have HO7 := Lib.hid ho7; have HC7 := Lib.hid hC7; have HB7 := Lib.hid hb7; clear ho7 hb7 hg7 hat7 hC7))
      have hB7 : Below wr.heap.size wr w7 := HAC2.out.trans (HB7.out.mono HAC2.out.size)
      have hN7 := net_below HN.out hB7
      have hlen : ((l.take k).map (·.f3)).length < 4096 := by rw [List.length_map, List.length_take]; omega
      have PT1 := PT.out g g 1 _ _ _ _ c7 _ _ hN7 (by omega) HC7.out
      rw [put1 _ _ hlen] at PT1
      refine PT1.mono ?_
      rintro e w8 ⟨rfl, S8, hN8, hS8, ho8⟩
      have hltS : ∀ k', S k' → k' < wr.heap.size := by
        obtain ⟨_, _, _, _, _, _, _, _, _, _, _, hl, _⟩ := HN.out
        exact fun k' hk' => (hl k' hk').2
      have hw2 : wr.heap.size ≤ w2.heap.size := HAC2.out.size
      have hO8 : Kd.R KB 5 w8 w2.heap.size (fun _ => True) (.slice A7 b.length c7) b := made_stays HO7.out ho8 (fun k' hk' => by have := hltS k' hk'; omega)
      obtain ⟨bo, x, rfl, hbo, hbo2, hcell8, hfr8⟩ := first_cell hO8 (by omega)
      have hbo7 : bo < w7.heap.size := Kd.R_lt HO7.out bo rfl
      have hgw := net_lt HN.out
      have HN8 := Lib.hid hN8
      have HB8 : Hid (Below g w w8) := Lib.hid (net_bl hN7 ho8 (bl_to HB.out hB7 (by omega)))
      have HS8 := Lib.hid hS8
      have HLS := Lib.hid hltS
      clear PT1 hN8 hS8 ho8 hltS hO8 hlen hN7 hB7
      go_wp2_with fail
      go_roundw
      case rel =>
        refine ⟨k + 1, S8, by omega, by go_num, ?_, bl_set (p := ⟨bo, 0, none⟩) HB8.out (show g ≤ bo by omega) _⟩
        rw [HT.out]
        refine net_only (T := fun k' => k' = bo) HN8.out ((OnlyS.refl _ _).set _ _ (.inl rfl)) (fun k' hk' he => ?_)
        subst he
        rcases HS8.out _ hk' with h | h
        · have := HLS.out _ h; omega
        · omega
      case measure => simp [intOf]; omega
    · have hlt' : ¬ (k : Int) < (l.length : Int) := by omega
      have hN := HN.out
      rw [List.take_of_length_le (by omega)] at hN
      have HN1 := Lib.hid hN
      clear HN hN
      go_wp2_with fail
      go_loopw [60] (fun i wr => ∃ (k : Nat) (S : Nat → Prop), k ≤ l.length ∧ i = .int .i64 k ∧ NetAt wr g g [] ((l.drop k).map (·.f3)) S ∧ Below g w wr)
        (fun i _ => l.length - (intOf i).toNat)
      case atStart => exact ⟨0, S, Nat.zero_le _, rfl, HN1.out, HB.out⟩
      case round =>
        obtain ⟨k, S, hk, rfl, hN, hB⟩ := hrel
        have HN := Lib.hid hN
        have HB := Lib.hid hB
        clear hN hB HN1
        by_cases hlt : k < l.length
        · have hlt' : (k : Int) < (l.length : Int) := by omega
          have hbw : Below w.heap.size w wr := by rw [hg]; exact HB.out
          obtain ⟨ad, A0, c0, rfl, z0, z1, z2, z3, hCB0⟩ := at_act HR.out k hlt
          have x0 := cell_kept z0 (Kept.of_below hbw (fun _ => False)) (fun h => h)
          have x1 := cell_kept z1 (Kept.of_below hbw (fun _ => False)) (fun h => h)
          have x2 := cell_kept z2 (Kept.of_below hbw (fun _ => False)) (fun h => h)
          have x3 := cell_kept z3 (Kept.of_below hbw (fun _ => False)) (fun h => h)
          have HCB0 := Lib.hid hCB0
          have HCB := Lib.hid (Kd.C_below hCB0 hbw)
          clear z0 z1 z2 z3 hbw
          have htk : (l.drop k).map (·.f3) = l[k].f3 :: (l.drop (k + 1)).map (·.f3) := by
            rw [List.drop_eq_getElem_cons hlt, List.map_cons]
          have hN := HN.out
          rw [htk] at hN
          have HN2 := Lib.hid hN
          clear hCB0 htk hN HN
          generalize hb : l[k].f3 = b at x3 HCB HN2 HCB0
          generalize l[k].f0 = y0 at x0
          generalize l[k].f1 = y1 at x1
          generalize l[k].f2 = y2 at x2
          generalize hM : (l.drop (k + 1)).map (·.f3) = M at HN2
          have hgw := net_lt HN2.out
          have hact : Below wr.heap.size wr (wr.alloc (.cells #[.int .i64 y0, .int .i64 y1, .int .i64 y2, .slice A0 b.length c0] 63)) := bl_all (Below.refl _ _) _
          have e1 : atN 1 0 [] (b :: M) = (0, b) := by
            unfold atN dirL
            rw [if_neg (by omega), if_neg (show ¬ (1 : Int) = 0 by omega), if_neg (by simp only [List.length_cons]; omega)]
            rfl
          have e2 : takeN 1 0 [] (b :: M) = ((0, b), [], M) := by
            unfold takeN
            rw [e1]
            simp
          have TK1 := Lib.hid (fun u S (h : NetAt u g g [] (b :: M) S) => TK.out g g 1 0 [] (b :: M) S u h)
          rw [e2, e1] at TK1
          clear e1 e2
          go_wp2_with fail
          generalize hw2 : wr.alloc (.cells #[.int .i64 y0, .int .i64 y1, .int .i64 y2, .slice A0 b.length c0] 63) = w2
          rw [hw2] at hact
          have hblk : w2.heap[wr.heap.size]? = some (.cells #[.int .i64 y0, .int .i64 y1, .int .i64 y2, .slice A0 b.length c0] 63 (0, 0)) := by rw [← hw2]; exact new_at _ _
          have hN2 := net_below HN2.out hact
          have hC2 := Kd.C_below HCB.out hact
          clear hw2
          refine (TK1.out _ _ hN2).mono ?_
          rintro e w3 ⟨v, rfl, hr3, S3, hN3, hS3, ho3⟩
          have hltS : ∀ k', S k' → k' < wr.heap.size := by
            obtain ⟨_, _, _, _, _, _, _, _, _, _, _, hl, _⟩ := HN2.out
            exact fun k' hk' => (hl k' hk').2
          obtain ⟨A3, c3, rfl, _, hC3⟩ := Kd.R_reads hr3
          have hblk3 := blk_only hblk ho3 (fun hs => by have := hltS _ hs; omega)
          have hq3 : w3.cell? ⟨wr.heap.size, 3, none⟩ = some (.slice A0 b.length c0) := blk_cell hblk3 3
          have HB3 := Lib.hid (net_bl hN2 ho3 (bl_to HB.out hact (by omega)))
          have hCw : Kd.C KB w3 A0 b.length b := Kd.C_below HCB0.out (show Below w.heap.size w w3 by rw [hg]; exact HB3.out)
          have hcv1 : (convert 45 9 (.slice A3 b.length c3)).run Try.prog w3 = .ok (.string (strOfNums b)) w3 := Kd.C_string (P := Try.prog) (A := A3) (c := c3) Try.underlying45 Try.underlying5 Try.underlying9 hC3
          have hcv2 : (convert 45 9 (.slice A0 b.length c0)).run Try.prog w3 = .ok (.string (strOfNums b)) w3 := Kd.C_string (P := Try.prog) (A := A0) (c := c0) Try.underlying45 Try.underlying5 Try.underlying9 hCw
          have HN3 := Lib.hid hN3
          have hs3 : wr.heap.size ≤ w3.heap.size := by have := ho3.size; have := hact.size; omega
          clear hN3 hS3 ho3 hltS hC3 hr3 hblk hblk3 hN2 hC2 hCw hact
          go_wp2_with fail
          go_roundw
          case rel => exact ⟨k + 1, S3, by omega, by go_num, by rw [hM]; exact HN3.out, HB3.out⟩
          case measure => simp [intOf]; omega
        · have hlt' : ¬ (k : Int) < (l.length : Int) := by omega
          have hN := HN.out
          rw [List.drop_eq_nil_of_le (by omega)] at hN
          have HN1 := Lib.hid (show NetAt wr g g [] [] S from hN)
          have hgw := net_lt hN
          clear HN hN
          by_cases hm : 0 < more
          · have L1 := LN.out g g 1 [] [] S wr HN1.out
            rw [show lenN 1 [] [] = 0 by decide] at L1
            have HL1 := Lib.hid L1
            clear L1
            go_wp2_with fail
            refine HL1.out.mono ?_
            rintro e w' ⟨rfl, rfl⟩
            go_wp2_with fail
            refine (LV.out _).mono ?_
            rintro e w' ⟨rfl, hb3⟩
            go_wp2_with fail
            go_ret
            exact ⟨rfl, bl_to HB.out hb3 (by omega)⟩
          · go_wp2_with fail
            go_loopw [13] (fun i wr => ∃ (k : Nat) (S : Nat → Prop), k ≤ 4096 ∧ i = .int .i64 k ∧ NetAt wr g g (List.replicate k []) [] S ∧ Below g w wr)
              (fun i _ => 4096 - (intOf i).toNat)
            case atStart => exact ⟨0, S, Nat.zero_le _, rfl, HN1.out, HB.out⟩
            case round =>
              obtain ⟨k, S, hk, rfl, hN, hB⟩ := hrel
              have HN := Lib.hid hN
              have HB := Lib.hid hB
              have hgw := net_lt hN
              clear hN hB HN1
              by_cases hlt : k < 4096
              · have hlt' : (k : Int) < 4096 := by omega
                have P1 := PT.out g g 0 _ _ _ none 0 [] _ HN.out (by simp) (Kd.C_nil _ _)
                rw [show putN 0 [] (List.replicate k []) [] = (0, List.replicate (k + 1) [], []) by
                  unfold putN dirL
                  rw [if_neg (by omega), if_pos rfl, if_neg (by rw [List.length_replicate]; omega), if_pos rfl, if_pos rfl, List.replicate_succ']] at P1
                have HP1 := Lib.hid P1
                clear P1
                go_wp2_with fail
                refine HP1.out.mono ?_
                rintro e w3 ⟨rfl, S3, hN3, hS3, ho3⟩
                have HB3 := Lib.hid (net_bl HN.out ho3 HB.out)
                have HN3 := Lib.hid hN3
                clear hN3 hS3 ho3
                go_wp2_with fail
                go_roundw
                case rel => exact ⟨k + 1, S3, by omega, by go_num, HN3.out, HB3.out⟩
                case measure => simp [intOf]; omega
              · obtain rfl : k = 4096 := by omega
                have hfl : (List.replicate 4096 ([] : List Int)).length = 4096 := List.length_replicate
                have f1 : putN 0 [] (List.replicate 4096 []) [] = (12, List.replicate 4096 [], []) := by
                  unfold putN dirL
                  rw [if_neg (by omega), if_pos rfl, if_pos (by rw [hfl]; omega)]
                have fa : atN 0 0 (List.replicate 4096 []) [] = (0, []) := by
                  unfold atN dirL
                  rw [if_neg (by omega), if_pos rfl, if_neg (by rw [hfl]; omega)]
                  rfl
                have f2 : doubleN 0 0 (List.replicate 4096 []) [] = (12, List.replicate 4096 [], []) := by
                  unfold doubleN
                  rw [fa]
                  rw [if_pos rfl, f1]
                have f3 : lenN 0 (List.replicate 4096 []) [] = 4096 := by
                  unfold lenN dirL
                  rw [if_neg (by omega), if_pos rfl, hfl]; rfl
                have f4 : putN 1 [] (List.replicate 4096 []) [] = (0, List.replicate 4096 [], [[]]) := by
                  unfold putN dirL
                  rw [if_neg (by omega), if_neg (show ¬ (1 : Int) = 0 by omega), if_neg (by simp), if_neg (show ¬ (1 : Int) = 0 by omega), if_neg (show ¬ (1 : Int) = 0 by omega)]
                  rfl
                have P1 := Lib.hid (fun u S (h : NetAt u g g (List.replicate 4096 []) [] S) => PT.out g g 0 _ _ S none 0 [] u h (by simp) (Kd.C_nil _ _))
                have P4 := Lib.hid (fun u S (h : NetAt u g g (List.replicate 4096 []) [] S) => PT.out g g 1 _ _ S none 0 [] u h (by simp) (Kd.C_nil _ _))
                have P2 := Lib.hid (fun u S (h : NetAt u g g (List.replicate 4096 []) [] S) => DB.out g g 0 0 _ _ S u h)
                have P3 := Lib.hid (fun u S (h : NetAt u g g (List.replicate 4096 []) [] S) => LN.out g g 0 _ _ S u h)
                rw [f1] at P1
                rw [f2] at P2
                rw [f3] at P3
                rw [f4] at P4
                clear f1 fa f2 f3 f4 hfl
                generalize List.replicate 4096 ([] : List Int) = R at HN P1 P2 P3 P4
                go_wp2_with fail
                refine (P1.out _ _ HN.out).mono ?_
                rintro e w3 ⟨rfl, S3, hN3, hS3, ho3⟩
                have HB3 := Lib.hid (net_bl HN.out ho3 HB.out)
                have HN3 := Lib.hid hN3
                clear hN3 hS3 ho3
                go_wp2_with fail
                refine (P2.out _ _ HN3.out).mono ?_
                rintro e w4 ⟨rfl, S4, hN4, hS4, ho4⟩
                have HB4 := Lib.hid (net_bl HN3.out ho4 HB3.out)
                have HN4 := Lib.hid hN4
                clear hN4 hS4 ho4
                go_wp2_with fail
                refine (P3.out _ _ HN4.out).mono ?_
                rintro e w5 ⟨rfl, rfl⟩
                go_wp2_with fail
                refine (P4.out _ _ HN4.out).mono ?_
                rintro e w6 ⟨rfl, S6, hN6, hS6, ho6⟩
                have HB6 := Lib.hid (net_bl HN4.out ho6 HB4.out)
                have hgw6 := net_lt hN6
                clear hN6 hS6 ho6
                go_wp2_with fail
                refine (LV.out _).mono ?_
                rintro e w' ⟨rfl, hb3⟩
                go_wp2_with fail
                go_ret
                exact ⟨rfl, bl_to HB6.out hb3 (by omega)⟩
end Go.Proofs.Ytajpnohhahffbaa.NetW
