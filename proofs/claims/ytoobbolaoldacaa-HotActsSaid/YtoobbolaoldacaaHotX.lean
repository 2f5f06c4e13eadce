/-
  The reference's Use.
-/
import Derived.Test.YtoobbolaoldacaaHotV
namespace Go.Proofs.Ytoobbolaoldacaa.HotW
open Go.RowKit Go.Proofs.Ytoobbolaoldacaa Go.Proofs.Ytoobbolaoldacaa.Hot Go.Proofs.Ytoobbolaoldacaa.HotBP Go.Proofs.Ytoobbolaoldacaa.HotP Go.Proofs.Ytoobbolaoldacaa.BitsPlain Go.Proofs.Ytoobbolaoldacaa.RowOwn Go.Proofs.Ytoobbolaoldacaa.CloneI Go.Proofs.YtoobbolaoldacaaW.PrintWords Go.Proofs.YtoobbolaoldacaaW.PrintMore
set_option linter.unusedVariables false
def RUS (w0 : World) (S0 Pr : Nat → Prop) (g base : Nat) (m : Int) (L : List Int) (u : World) : Prop :=
  ∃ S, RHotAt u g base m L S ∧ (∀ k, S k → ¬ Pr k) ∧ (∀ k, Pr k → k < u.heap.size) ∧ (∀ k, S k → S0 k ∨ w0.heap.size ≤ k) ∧ OnlyS S0 w0 u
section
variable {w0 u : World} {S0 Pr : Nat → Prop} {g base : Nat} {m : Int} {need busy : Nat} {L : List Int}
theorem rus_below {u' : World} (h : RUS w0 S0 Pr g base m L u) (hb : Below u.heap.size u u') : RUS w0 S0 Pr g base m L u' := by
  obtain ⟨S, hH, hd, hp, hs, ho⟩ := h
  exact ⟨S, rhot_below hH hb, hd, fun k hk => Nat.lt_of_lt_of_le (hp k hk) hb.size, hs, ho.below hb⟩
theorem rus_more {u' : World} (h : RUS w0 S0 Pr g base m L u) (hb : Below u.heap.size u u') : RUS w0 S0 (fun k => Pr k ∨ u.heap.size ≤ k ∧ k < u'.heap.size) g base m L u' := by
  obtain ⟨S, hH, hd, hp, hs, ho⟩ := h
  have hlt : ∀ k, S k → k < u.heap.size := by
    obtain ⟨_, _, _, _, _, _, _, hl, _⟩ := hH
    exact fun k hk => (hl k hk).2
  refine ⟨S, rhot_below hH hb, fun k hk hpr => ?_, fun k hk => ?_, hs, ho.below hb⟩
  · rcases hpr with h | h
    · exact hd k hk h
    · have := hlt k hk; omega
  · rcases hk with h | h
    · exact Nat.lt_of_lt_of_le (hp k h) hb.size
    · exact h.2
theorem rus_less {Pr' : Nat → Prop} (h : RUS w0 S0 Pr g base m L u) (hp : ∀ k, Pr' k → Pr k) : RUS w0 S0 Pr' g base m L u := by
  obtain ⟨S, hH, hd, hp', hs, ho⟩ := h
  exact ⟨S, hH, fun k hk h => hd k hk (hp k h), fun k hk => hp' k (hp k hk), hs, ho⟩
theorem rus_open (h : RUS w0 S0 Pr g base m L u) : ∃ A c, u.heap[g]? = some (.cells #[.slice A L.length c, .int .i64 m] 85 (0, 0)) ∧ L.length ≤ c ∧ Kd.C KI u A L.length L := by
  obtain ⟨S, ⟨v, ok, hh, hr, _⟩, _⟩ := h
  obtain ⟨A, c, rfl, hc, hC⟩ := row_reads hr
  exact ⟨A, c, hh, hc, hC⟩
theorem rus_at (h : RUS w0 S0 Pr g base m L u) : ∃ S, RHotAt u g base m L S ∧ (∀ k, S k → ¬ Pr k) := by
  obtain ⟨S, hH, hd, _⟩ := h
  exact ⟨S, hH, hd⟩
theorem rus_over (h : RUS w0 S0 Pr g base m L u) (hn : need < 2 ^ 64) : Calls Try.prog 78 #[.pointer (some ⟨g, 0, none⟩), .int .u64 (need : Int)] u fun e w' => e = .returned (.bool (overN m need L)) ∧ Below u.heap.size u w' := by
  obtain ⟨S, hH, hd, _⟩ := h
  exact over_c g base m L S need u hn hH
theorem rus_mask (h : RUS w0 S0 Pr g base m L u) : Calls Try.prog 37 #[.pointer (some ⟨g, 0, none⟩)] u fun e w' => e = .returned (.int .u64 ((ofN L : Nat) : Int)) ∧ Drawn0 u w' := by
  obtain ⟨S, hH, hd, _⟩ := h
  exact RMask_c g base m L S u hH
theorem rus_put {u1 : World} {v : Value} {M : List Int} (h : RUS w0 S0 Pr g base m L u) (hb : Below u.heap.size u u1) (hr : Kd.R KI 3 u1 u.heap.size (fun _ => True) v M) (hl : M.length ≤ 100000) :
    RUS w0 S0 Pr g base m M (u1.setCell ⟨g, 0, none⟩ v) ∧ ∀ k, Pr k → (u1.setCell ⟨g, 0, none⟩ v).heap[k]? = u1.heap[k]? := by
  obtain ⟨S, hH, hd, hp, hs, ho⟩ := h
  have hgS : S g := by
    obtain ⟨_, _, _, _, hS, _⟩ := hH
    exact hS
  obtain ⟨S', hH', hS', ho'⟩ := rhot_put hH hb hr hl
  refine ⟨⟨S', hH', fun k hk hpr => ?_, fun k hk => Nat.lt_of_lt_of_le (hp k hk) ho'.size, fun k hk => ?_, ho.trans ho' hs⟩, fun k hk => Below.heap_setCell u1 ⟨g, 0, none⟩ v k (fun he => hd g hgS (by rw [show g = k from he.symm]; exact hk))⟩
  · rcases hS' k hk with h1 | h1
    · exact hd k h1 hpr
    · have := hp k hpr; omega
  · rcases hS' k hk with h1 | h1
    · exact hs k h1
    · have := ho.size; exact .inr (by omega)
theorem rus_end (h : RUS w0 S0 Pr g base m L u) : ∃ S', RHotAt u g base m L S' ∧ (∀ k, S' k → S0 k ∨ w0.heap.size ≤ k) ∧ OnlyS S0 w0 u := by
  obtain ⟨S, hH, hd, hp, hs, ho⟩ := h
  exact ⟨S, hH, hs, ho⟩
end
theorem rus_start {w w1 : World} {S : Nat → Prop} {g base : Nat} {m : Int} {L : List Int} (h : RHotAt w g base m L S) (hb : Below w.heap.size w w1) : RUS w S (fun _ => False) g base m L w1 :=
  ⟨S, rhot_below h hb, fun _ _ hf => hf, fun _ hf => hf.elim, fun k hk => .inl hk, OnlyS.of_below hb⟩
set_option maxHeartbeats 4000000 in
set_option maxRecDepth 100000 in
theorem RUse_c (g base : Nat) (m : Int) (L : List Int) (S : Nat → Prop) (need busy : Nat) (w : World) (hn : need < 2 ^ 64) (hb : busy < 2 ^ 64) (hL : L.length ≤ 50000) (h : RHotAt w g base m L S) :
    Calls Try.prog 36 #[.pointer (some ⟨g, 0, none⟩), .int .u64 (need : Int), .int .u64 (busy : Int)] w fun e w' => e = .returned (.tuple #[.bool (ruseN m L need busy).1.1, .bool (ruseN m L need busy).1.2]) ∧ ∃ S', RHotAt w' g base m (ruseN m L need busy).2 S' ∧ (∀ k, S' k → S k ∨ w.heap.size ≤ k) ∧ OnlyS S w w' := by
  have FT := Lib.hid (RFits_c g base m L S need busy w hn hb h)
  have HH := Lib.hid h
  cases hf : rfitsN m L need busy with
  | false =>
    rw [hf] at FT
    rw [show ruseN m L need busy = ((false, false), L) by unfold ruseN; rw [hf]; rfl]
    clear hf h hn hb
    go_enter Try.func36, Try.ntmps36
    go_wp2_with fail
    refine FT.out.mono ?_
    rintro e w1 ⟨rfl, hb1⟩
    go_wp2_with fail
    go_ret2
    exact ⟨rfl, S, rhot_below HH.out hb1, fun k hk => .inl hk, OnlyS.of_below hb1⟩
  | true =>
    rw [hf] at FT
    rw [show ruseN m L need busy = ((((ofN ((intsN (list need)).foldl rappN (L.foldl (rstepN m need busy) L)) : Nat) : Int) != ((ofN L : Nat) : Int), true), (intsN (list need)).foldl rappN (L.foldl (rstepN m need busy) L)) by unfold ruseN; rw [hf]; rfl]
    have hMl := list_len need
    have LI := Lib.hid (fun u => rlist_c need hn u)
    have H1 := Lib.hid (fun e => rhas_c need e hn)
    have H2 := Lib.hid (fun e => rhas_c busy e hb)
    generalize intsN (list need) = MN at LI hMl ⊢
    clear hf h hb
    go_enter Try.func36, Try.ntmps36
    go_wp2_with fail
    refine FT.out.mono ?_
    rintro e w1 ⟨rfl, hb1⟩
    have HU1 := Lib.hid (rus_start HH.out hb1)
    clear hb1 FT
    go_wp2_with fail
    refine (rus_mask HU1.out).mono ?_
    rintro e w2 ⟨rfl, hd2⟩
    have HU2 := Lib.hid (rus_below HU1.out (bl_drawn hd2))
    clear hd2 HU1
    obtain ⟨A, c, hgx, hcx, hCx⟩ := rus_open HU2.out
    have HGX := Lib.hid hgx
    have HCX := Lib.hid hCx
    clear hgx hCx
    go_wp2_with (first
      | ((with_reducible refine gate_dst (N := 21) rfl ?_); (try (refine gate_guard (by rfl) ?_; dsimp only)); refine Kd.R_lit (Kd.int .i64) _ 3 ?hg (N := 21) ?hd (xs := ([] : List Int)) (inner := []) (ok := fun _ => True) (okp := fun _ => True) ?hr ?hp (fun _ hk => hk) trivial (Below.refl _ _) (Nat.le_refl _) (by simp) ?_; (case hd => rfl); (case hg => rfl); (case hr => first | (go_simp; done) | (go_simp; rfl)); (case hp => exact (Reps.none _ _)); intro v5 w5 ho5 hb5 hg5 hnew5; have q5 : w5.cell? ⟨g, 0, none⟩ = some (.slice A L.length c) := blk_cell (keep_at_all HGX.out hb5) 0; have HO5 := Lib.hid ho5; have HB5 := Lib.hid hb5; clear hg5 hnew5 ho5 hb5)
      | ((with_reducible refine gate_builtin (b := .append) (xs := #[.tmp 21, .tmp 25]) rfl ?_); at_builtin; refine Kd.R_append_rows (Kd.int .i64) (w0 := w2) w2.heap.size rfl (.tmp 21) (.tmp 25) 54 3 (.int .i64 0) 8 rfl Try.underlying54 info3 rfl (by decide) (by omega) v5 [] L _ _ _ (fun _ => True) (fun _ => False) rfl rfl ?aO ?aR (fun _ _ h => h) (fun _ h => h.elim) ?aF ?aB ?aS ?aL ?_; (case aR => exact Kd.C_below HCX.out HB5.out); (case aB => exact HB5.out); (case aF => exact (fun _ _ => trivial)); (case aO => exact HO5.out); (case aS => exact HB5.out.size); (case aL => simp; omega); intro v7 w7 ho7 hb7 hg7 hat7; have HO7 := Lib.hid ho7; obtain ⟨A7, c7, he7⟩ := Kd.R_slice ho7; rw [List.nil_append] at he7; subst he7; have HB7 := Lib.hid hb7; clear ho7 hb7 hg7 hat7))
    have HO8 : Hid (Kd.R KI 3 w7 w2.heap.size (fun _ => True) (.slice A7 L.length c7) L) := Lib.hid (by have := HO7.out; rwa [List.nil_append] at this)
    have HUS7 := Lib.hid (rus_less (rus_more HU2.out HB7.out) (Pr' := fun k => w2.heap.size ≤ k ∧ k < w7.heap.size) (fun k hk => .inr hk))
    have HM7 : Hid (Kd.R KI 3 w7 w2.heap.size (fun k => w2.heap.size ≤ k ∧ k < w7.heap.size) (.slice A7 L.length c7) L) := Lib.hid (Kd.R_mono (Kd.R_bound HO8.out) (fun k hk => ⟨hk.2.1, hk.2.2.1⟩))
    clear HO7 HB7 HU2 HGX HCX HO8
    generalize (fun k => w2.heap.size ≤ k ∧ k < w7.heap.size) = Pr7 at HUS7 HM7
    generalize w2.heap.size = b7 at HM7
    go_wp2_with fail
    go_loopw [29] (fun i u => ∃ (k : Nat) (L' : List Int), k ≤ L.length ∧ i = .int .i64 k ∧ L' = (L.take k).foldl (rstepN m need busy) L ∧ L'.length ≤ L.length ∧ RUS w S Pr7 g base m L' u ∧ Kd.R KI 3 u b7 Pr7 (.slice A7 L.length c7) L)
      (fun i _ => L.length - (intOf i).toNat)
    case atStart => exact ⟨0, L, Nat.zero_le _, rfl, rfl, Nat.le_refl _, HUS7.out, HM7.out⟩
    case round =>
      obtain ⟨k, L', hk, rfl, hL2, hlen2, hus, hM⟩ := hrel
      have HU := Lib.hid hus
      have HMR := Lib.hid hM
      clear hus hM HUS7 HM7
      by_cases hlt : k < L.length
      · have hlt' : (k : Int) < (L.length : Int) := by omega
        obtain ⟨ad, hA7, hcell⟩ := at_KI (Kd.R_reads' HMR.out).2.2 k hlt
        subst hA7
        have hnext : (L.take (k + 1)).foldl (rstepN m need busy) L = rstepN m need busy L' L[k] := by
          rw [List.take_add_one, List.getElem?_eq_getElem hlt, List.foldl_append, ← hL2]; rfl
        have HNX := Lib.hid hnext
        clear hL2 hnext
        have HK1 := Lib.hid (H1.out L[k])
        have HK2 := Lib.hid (H2.out L[k])
        generalize L[k] = y at hcell HNX HK1 HK2
        obtain ⟨ov, hov⟩ : ∃ b, overN m need L' = b := ⟨_, rfl⟩
        obtain ⟨b1, hb1⟩ : ∃ b, hasN need y = b := ⟨_, rfl⟩
        obtain ⟨b2, hb2⟩ : ∃ b, hasN busy y = b := ⟨_, rfl⟩
        rw [hb1] at HK1
        rw [hb2] at HK2
        have HOV := Lib.hid hov
        have HB1 := Lib.hid hb1
        have HB2 := Lib.hid hb2
        clear hov hb1 hb2
        cases ov with
        | false =>
          go_wp2_with fail
          refine (rus_over HU.out hn).mono ?_
          rintro e w6 ⟨rfl, hb6⟩
          rw [HOV.out]
          have HU6 := Lib.hid (rus_below HU.out hb6)
          have HM6 := Lib.hid (Kd.R_below HMR.out hb6)
          clear hb6 HU HMR
          go_wp2_with fail
          have HNX2 : Hid ((L.take (k + 1)).foldl (rstepN m need busy) L = L') := Lib.hid (by rw [HNX.out]; unfold rstepN; rw [HOV.out]; rfl)
          refine ⟨⟨k + 1, L', by omega, by go_num, HNX2.out.symm, hlen2, HU6.out, HM6.out⟩, by simp [intOf]; omega⟩
        | true =>
          cases b1 with
          | true =>
            go_wp2_with fail
            refine (rus_over HU.out hn).mono ?_
            rintro e w6 ⟨rfl, hb6⟩
            rw [HOV.out]
            have HU6 := Lib.hid (rus_below HU.out hb6)
            have HM6 := Lib.hid (Kd.R_below HMR.out hb6)
            clear hb6 HU HMR
            go_wp2_with fail
            refine (HK1.out _).mono ?_
            rintro e w7 ⟨rfl, hd7⟩
            have HU7 := Lib.hid (rus_below HU6.out (bl_drawn hd7))
            have HM7 := Lib.hid (Kd.R_below HM6.out (bl_drawn hd7))
            clear hd7 HU6 HM6
            go_wp2_with fail
            have HNX2 : Hid ((L.take (k + 1)).foldl (rstepN m need busy) L = L') := Lib.hid (by rw [HNX.out]; unfold rstepN; rw [HOV.out, HB1.out]; rfl)
            refine ⟨⟨k + 1, L', by omega, by go_num, HNX2.out.symm, hlen2, HU7.out, HM7.out⟩, by simp [intOf]; omega⟩
          | false =>
            cases b2 with
            | true =>
              go_wp2_with fail
              refine (rus_over HU.out hn).mono ?_
              rintro e w6 ⟨rfl, hb6⟩
              rw [HOV.out]
              have HU6 := Lib.hid (rus_below HU.out hb6)
              have HM6 := Lib.hid (Kd.R_below HMR.out hb6)
              clear hb6 HU HMR
              go_wp2_with fail
              refine (HK1.out _).mono ?_
              rintro e w7 ⟨rfl, hd7⟩
              have HU7 := Lib.hid (rus_below HU6.out (bl_drawn hd7))
              have HM7 := Lib.hid (Kd.R_below HM6.out (bl_drawn hd7))
              clear hd7 HU6 HM6
              go_wp2_with fail
              refine (HK2.out _).mono ?_
              rintro e w8 ⟨rfl, hd8⟩
              have HU8 := Lib.hid (rus_below HU7.out (bl_drawn hd8))
              have HM8 := Lib.hid (Kd.R_below HM7.out (bl_drawn hd8))
              clear hd8 HU7 HM7
              go_wp2_with fail
              have HNX2 : Hid ((L.take (k + 1)).foldl (rstepN m need busy) L = L') := Lib.hid (by rw [HNX.out]; unfold rstepN; rw [HOV.out, HB1.out, HB2.out]; rfl)
              refine ⟨⟨k + 1, L', by omega, by go_num, HNX2.out.symm, hlen2, HU8.out, HM8.out⟩, by simp [intOf]; omega⟩
            | false =>
              go_wp2_with fail
              refine (rus_over HU.out hn).mono ?_
              rintro e w6 ⟨rfl, hb6⟩
              rw [HOV.out]
              have HU6 := Lib.hid (rus_below HU.out hb6)
              have HM6 := Lib.hid (Kd.R_below HMR.out hb6)
              clear hb6 HU HMR
              go_wp2_with fail
              refine (HK1.out _).mono ?_
              rintro e w7 ⟨rfl, hd7⟩
              have HU7 := Lib.hid (rus_below HU6.out (bl_drawn hd7))
              have HM7 := Lib.hid (Kd.R_below HM6.out (bl_drawn hd7))
              clear hd7 HU6 HM6
              go_wp2_with fail
              refine (HK2.out _).mono ?_
              rintro e w8 ⟨rfl, hd8⟩
              have HU8 := Lib.hid (rus_below HU7.out (bl_drawn hd8))
              have HM8 := Lib.hid (Kd.R_below HM7.out (bl_drawn hd8))
              clear hd8 HU7 HM7
              go_wp2_with fail
              obtain ⟨S8, h8, d8⟩ := rus_at HU8.out
              refine (without_c g base m L' S8 y w8 h8).mono ?_
              rintro e w9 ⟨v9, rfl, hr9, hb9⟩
              obtain ⟨A9, c9, rfl⟩ := Kd.R_slice hr9
              obtain ⟨Ax, cx, hgx, _, _⟩ := rus_open (rus_below HU8.out hb9)
              have q1 : ∃ z, w9.cell? ⟨g, 0, none⟩ = some z := ⟨_, blk_cell hgx 0⟩
              obtain ⟨z1, q1⟩ := q1
              have qf : w9.frozen? ⟨g, 0, none⟩ = false := blk_frozen hgx 0
              have hlf : (L'.filter (fun z => z != y)).length ≤ L'.length := List.length_filter_le _ _
              have HNX2 : Hid ((L.take (k + 1)).foldl (rstepN m need busy) L = L'.filter (fun z => z != y)) := Lib.hid (by rw [HNX.out]; unfold rstepN; rw [HOV.out, HB1.out, HB2.out]; rfl)
              have HPUT := Lib.hid (rus_put HU8.out hb9 hr9 (by omega))
              have HM9 := Lib.hid (Kd.R_below HM8.out hb9)
              clear hr9 hb9 hgx h8 d8 HU8 HM8
              generalize L'.filter (fun z => z != y) = F at HNX2 HPUT hlf ⊢
              go_wp2_with fail
              refine ⟨⟨k + 1, F, by omega, by go_num, HNX2.out.symm, by omega, HPUT.out.1, Kd.R_move HM9.out HPUT.out.2⟩, by simp [intOf]; omega⟩
      · have hlt' : ¬ (k : Int) < (L.length : Int) := by omega
        have hfin : L' = L.foldl (rstepN m need busy) L := by
          rw [hL2, List.take_of_length_le (by omega)]
        have HF := Lib.hid hfin
        have hlM : L'.length ≤ 50000 := by omega
        clear hL2 hfin HMR
        go_wp2_with fail
        refine (LI.out _).mono ?_
        rintro e w6 ⟨v6, rfl, hr6, hb6⟩
        obtain ⟨A6, c6, he6⟩ := Kd.R_slice hr6
        subst he6
        have HUS6 := Lib.hid (rus_less (rus_more HU.out hb6) (Pr' := fun k => wr.heap.size ≤ k ∧ k < w6.heap.size) (fun k hk => .inr hk))
        have HM6 : Hid (Kd.R KI 3 w6 wr.heap.size (fun k => wr.heap.size ≤ k ∧ k < w6.heap.size) (.slice A6 MN.length c6) MN) := Lib.hid (Kd.R_mono (Kd.R_bound hr6) (fun k hk => ⟨hk.2.1, hk.2.2.1⟩))
        clear hr6 hb6 HU LI
        generalize (fun k => wr.heap.size ≤ k ∧ k < w6.heap.size) = Pr6 at HUS6 HM6
        generalize wr.heap.size = b6 at HM6
        go_wp2_with fail
        go_loopw [58] (fun i u => ∃ (j : Nat) (L2 : List Int), j ≤ MN.length ∧ i = .int .i64 j ∧ L2 = (MN.take j).foldl rappN L' ∧ L2.length ≤ L'.length + j ∧ RUS w S Pr6 g base m L2 u ∧ Kd.R KI 3 u b6 Pr6 (.slice A6 MN.length c6) MN)
          (fun i _ => MN.length - (intOf i).toNat)
        case atStart => exact ⟨0, L', Nat.zero_le _, rfl, rfl, Nat.le_refl _, HUS6.out, HM6.out⟩
        case round =>
          obtain ⟨j, L2, hj, rfl, hL2, hlen2, hus, hM⟩ := hrel
          have HU := Lib.hid hus
          have HMR := Lib.hid hM
          clear hus hM HUS6 HM6
          by_cases hlt : j < MN.length
          · have hltx : (j : Int) < (MN.length : Int) := by omega
            obtain ⟨ad, hA6, hcell⟩ := at_KI (Kd.R_reads' HMR.out).2.2 j hlt
            subst hA6
            have hnext : (MN.take (j + 1)).foldl rappN L' = rappN L2 MN[j] := by
              rw [List.take_add_one, List.getElem?_eq_getElem hlt, List.foldl_append, ← hL2]; rfl
            have HNX := Lib.hid hnext
            clear hL2 hnext
            generalize MN[j] = y at hcell HNX
            go_wp2_with fail
            obtain ⟨S8, h8, d8⟩ := rus_at HU.out
            refine (without_c g base m L2 S8 y _ h8).mono ?_
            rintro e w9 ⟨v9, rfl, hr9, hb9⟩
            have hlf : (L2.filter (fun z => z != y)).length ≤ L2.length := List.length_filter_le _ _
            have HNX2 : Hid ((MN.take (j + 1)).foldl rappN L' = L2.filter (fun z => z != y) ++ [y]) := Lib.hid HNX.out
            generalize L2.filter (fun z => z != y) = F at HNX2 hlf hr9
            obtain ⟨Ax, cx, hgx, _, _⟩ := rus_open HU.out
            have HGX := Lib.hid hgx
            have HR9 := Lib.hid hr9
            have HB9 := Lib.hid hb9
            clear hr9 hb9 hgx h8 d8 HNX
            go_wp2_with (first
              | ((with_reducible refine gate_builtin (b := .append) (xs := #[.tmp 65, .tmp 67]) rfl ?_); at_builtin; refine Kd.R_append KI (w0 := wr) wr.heap.size rfl (.tmp 65) (.tmp 67) 54 3 (.int .i64 0) 8 rfl Try.underlying54 info3 rfl (by decide) (by omega) v9 F y [.int .i64 y] (fun _ => True) (fun _ => False) rfl rfl ?aP (fun _ hk => hk.elim) ?aF ?aO ?aB ?aS ?aL ?_; (case aP => exact rfl); (case aB => exact (by repeat (first | (with_reducible first | exact HB9.out | apply below_alloc | apply pw_below_drewN | apply below_drew1) | exact HB9.out))); (case aF => exact (fun _ _ => trivial)); (case aO => exact (by (with_reducible repeat (first | apply Kd.R_alloc | apply Kd.R_drewN | apply Kd.R_drew)); exact HR9.out)); (case aS => exact (below_size (by repeat (first | (with_reducible first | exact HB9.out | apply below_alloc | apply pw_below_drewN | apply below_drew1) | exact HB9.out)))); (case aL => omega); intro v10 w10 ho10 hb10 hg10 hat10; obtain ⟨A10, c10, he10⟩ := Kd.R_slice ho10; subst he10; have hgx10 := keep_at_all HGX.out hb10; have q1 : ∃ z, w10.cell? ⟨g, 0, none⟩ = some z := ⟨_, blk_cell hgx10 0⟩; obtain ⟨z1, q1⟩ := q1; have qf : w10.frozen? ⟨g, 0, none⟩ = false := blk_frozen hgx10 0; have HO10 := Lib.hid ho10; have HB10 := Lib.hid hb10; clear ho10 hb10 hg10 hat10 hgx10))
            have hl2 : (F ++ [y]).length ≤ F.length + 1 := by simp
            have hO10 := HO10.out
            rw [show (F ++ [y]).length = F.length + 1 by simp] at hO10
            have HPUT := Lib.hid (rus_put HU.out HB10.out hO10 (by omega))
            have HM10 := Lib.hid (Kd.R_below HMR.out HB10.out)
            refine ⟨⟨j + 1, F ++ [y], by omega, by go_num, by rw [HNX2.out], by omega, HPUT.out.1, Kd.R_move HM10.out HPUT.out.2⟩, by simp [intOf]; omega⟩
          · have hltx : ¬ (j : Int) < (MN.length : Int) := by omega
            have hfin : L2 = MN.foldl rappN (L.foldl (rstepN m need busy) L) := by
              rw [hL2, List.take_of_length_le (by omega), ← HF.out]
            have HF2 := Lib.hid hfin
            have UM := Lib.hid (rus_mask HU.out)
            clear hL2 hfin HMR
            go_wp2_with fail
            refine UM.out.mono ?_
            rintro e w9 ⟨rfl, hd9⟩
            go_wp2_with fail
            go_ret2
            have hUE := rus_end (rus_below HU.out (bl_drawn hd9))
            rw [HF2.out] at hUE ⊢
            exact ⟨rfl, hUE⟩
end Go.Proofs.Ytoobbolaoldacaa.HotW
