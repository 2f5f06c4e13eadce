/-
  The walk of NetActs.
-/
import Derived.Test.YtajpnohhahffbaaNetB
import Derived.Deep.RegionWith
import Derived.Deep.DeepCutAuto
import Derived.Test.YtajpnohhahffbaaWLast
import Derived.Test.YtajpnohhahffbaaWTab
namespace Go.Proofs.Ytajpnohhahffbaa.NetW
open Go.RowKit Go.Proofs.Ytajpnohhahffbaa Go.Proofs.Ytajpnohhahffbaa.RowOwn Go.Proofs.Ytajpnohhahffbaa.CloneB Go.Proofs.YtajpnohhahffbaaW.PrintWords Go.Proofs.YtajpnohhahffbaaW.PrintLast Go.Proofs.YtajpnohhahffbaaW.PrintMore
set_option linter.unusedVariables false
/-- the two nets alone -/
def BS (w0 : World) (g : Nat) (L0 L1 : List (List Int)) (u : World) : Prop :=
  ∃ S S', NetAt u g g L0 L1 S ∧ RNetAt u (g + 1) (g + 1) L0 L1 S' ∧ (∀ k, S k → ¬ S' k) ∧ Below g w0 u
theorem bs_of {w0 u : World} {g q nb : Nat} {o : Obj} {L0 L1 : List (List Int)} (h : AS w0 g q nb o L0 L1 L0 L1 u) : BS w0 g L0 L1 u := by
  obtain ⟨S, S', hN, hR, hd, hd', hq, hb⟩ := h
  exact ⟨S, S', hN, hR, fun k hk => (hd k hk).1, hb⟩
theorem as_of {w0 u : World} {g : Nat} {o : Obj} {L0 L1 : List (List Int)} (h : BS w0 g L0 L1 u) (cs : Array Value) (t : TypeId) : AS w0 g u.heap.size u.heap.size (.cells cs t (0, 0)) L0 L1 L0 L1 (u.alloc (.cells cs t (0, 0))) := by
  obtain ⟨S, S', hN, hR, hd, hb⟩ := h
  have hbl : Below u.heap.size u (u.alloc (.cells cs t (0, 0))) := bl_all (Below.refl _ _) _
  have hln : ∀ k, S k → k < u.heap.size := by
    obtain ⟨_, _, _, _, _, _, _, _, _, _, _, hl, _⟩ := hN
    exact fun k hk => (hl k hk).2
  have hlr : ∀ k, S' k → k < u.heap.size := by
    obtain ⟨_, _, _, _, _, _, _, _, _, _, _, hl, _⟩ := hR
    exact fun k hk => (hl k hk).2
  have hg := (net_lt hN).2
  exact ⟨S, S', net_below hN hbl, Rnet_below hR hbl, fun k hk => ⟨hd k hk, by have := hln k hk; omega⟩, fun k hk => ⟨by have := hlr k hk; omega, hlr k hk⟩, new_at _ _, bl_to hb hbl (by omega)⟩
theorem bs_lt {w0 u : World} {g : Nat} {L0 L1 : List (List Int)} (h : BS w0 g L0 L1 u) : g < u.heap.size := by
  obtain ⟨S, S', hN, hR, hd, hb⟩ := h
  exact (net_lt hN).2
theorem bs_bel {w0 u : World} {g : Nat} {L0 L1 : List (List Int)} (h : BS w0 g L0 L1 u) : Below g w0 u := by
  obtain ⟨S, S', hN, hR, hd, hb⟩ := h
  exact hb
/-- the copies that are made of what is on its way -/
def CS (ws w0 : World) (g : Nat) (L0 L1 : List (List Int)) (v : Value) (M : List (List Int)) (u : World) : Prop :=
  ∃ S S', NetAt u g g L0 L1 S ∧ RNetAt u (g + 1) (g + 1) L0 L1 S' ∧ (∀ k, S k → ¬ S' k ∧ k < ws.heap.size) ∧ (∀ k, S' k → k < ws.heap.size) ∧ Below g w0 u ∧ Below ws.heap.size ws u ∧ Row K1 45 u ws.heap.size (fun k => ws.heap.size ≤ k) v M
theorem cs_start {ws w0 : World} {g : Nat} {L0 L1 : List (List Int)} (h : BS w0 g L0 L1 ws) : CS ws w0 g L0 L1 (.slice none 0 0) [] ws := by
  obtain ⟨S, S', hN, hR, hd, hb⟩ := h
  have hln : ∀ k, S k → k < ws.heap.size := by
    obtain ⟨_, _, _, _, _, _, _, _, _, _, _, hl, _⟩ := hN
    exact fun k hk => (hl k hk).2
  have hlr : ∀ k, S' k → k < ws.heap.size := by
    obtain ⟨_, _, _, _, _, _, _, _, _, _, _, hl, _⟩ := hR
    exact fun k hk => (hl k hk).2
  exact ⟨S, S', hN, hR, fun k hk => ⟨hd k hk, hln k hk⟩, hlr, hb, Below.refl _ _, row_nil _ _ _ _ _⟩
theorem cs_bs {ws w0 u : World} {g : Nat} {L0 L1 M : List (List Int)} {v : Value} (h : CS ws w0 g L0 L1 v M u) : BS w0 g L0 L1 u := by
  obtain ⟨S, S', hN, hR, hd, hd', hb, hw, hrow⟩ := h
  exact ⟨S, S', hN, hR, fun k hk => (hd k hk).1, hb⟩
theorem cs_below {ws w0 u u' : World} {g : Nat} {L0 L1 M : List (List Int)} {v : Value} (h : CS ws w0 g L0 L1 v M u) (hb' : Below u.heap.size u u') : CS ws w0 g L0 L1 v M u' := by
  obtain ⟨S, S', hN, hR, hd, hd', hb, hw, hrow⟩ := h
  have hg := (net_lt hN).2
  exact ⟨S, S', net_below hN hb', Rnet_below hR hb', hd, hd', bl_to hb hb' (by omega), hw.trans (hb'.mono hw.size), row_step hrow (fun k _ hk => hb'.block k hk)⟩
theorem cs_put {ws w0 u u' : World} {g : Nat} {L0 L1 M M' : List (List Int)} {v v' : Value} {row : Option Nat} (h : CS ws w0 g L0 L1 v M u) (hg' : u.grownBy u' row) (hr : ∀ k, row = some k → ws.heap.size ≤ k) (hrow' : Row K1 45 u' ws.heap.size (fun k => ws.heap.size ≤ k) v' M') : CS ws w0 g L0 L1 v' M' u' := by
  obtain ⟨S, S', hN, hR, hd, hd', hb, hw, hrow⟩ := h
  have hg := net_lt hN
  have ho : OnlyS (fun k => ws.heap.size ≤ k) u u' := (OnlyS.refl _ _).grown hg' (fun k hk => .inl (hr k hk))
  have hgs : g < ws.heap.size := by
    obtain ⟨_, _, _, _, _, _, _, hS, _⟩ := hN
    exact (hd g hS).2
  exact ⟨S, S', net_only hN ho (fun k hk hs => by have := (hd k hk).2; omega), Rnet_only hR ho (fun k hk hs => by have := hd' k hk; omega), hd, hd', ho.to_below hb (fun k hk => by omega) (by omega), ho.to_below hw (fun k hk => hk) hw.size, hrow'⟩
theorem cs_net {ws w0 u : World} {g : Nat} {L0 L1 M : List (List Int)} {v : Value} (h : CS ws w0 g L0 L1 v M u) : ∃ S, NetAt u g g L0 L1 S := by
  obtain ⟨S, S', hN, _⟩ := h
  exact ⟨S, hN⟩
theorem cs_row {ws w0 u : World} {g : Nat} {L0 L1 M : List (List Int)} {v : Value} (h : CS ws w0 g L0 L1 v M u) : Row K1 45 u ws.heap.size (fun k => ws.heap.size ≤ k) v M ∧ Below ws.heap.size ws u := by
  obtain ⟨S, S', hN, hR, hd, hd', hb, hw, hrow⟩ := h
  exact ⟨hrow, hw⟩
theorem cs_ref {ws w0 u : World} {g : Nat} {L0 L1 M : List (List Int)} {v : Value} (h : CS ws w0 g L0 L1 v M u) :
    (∃ A c, u.cell? ⟨g + 1, 0, none⟩ = some (.slice A L0.length c) ∧ Kd.C K1 u A L0.length L0) ∧ (∃ A c, u.cell? ⟨g + 1, 1, none⟩ = some (.slice A L1.length c) ∧ Kd.C K1 u A L1.length L1) ∧ L0.length ≤ 4096 ∧ L1.length ≤ 4096 := by
  obtain ⟨S, S', hN, ⟨v0, v1, ok0, ok1, hh, h0, h1, _, _, _, _, _, s0, s1⟩, _⟩ := h
  obtain ⟨A, c, rfl, _, hC⟩ := row_reads h0
  obtain ⟨A', c', rfl, _, hC'⟩ := row_reads h1
  exact ⟨⟨A, c, blk_cell hh 0, hC⟩, ⟨A', c', blk_cell hh 1, hC'⟩, s0.1, s1.1⟩
theorem row_lt {w : World} {base : Nat} {ok : Nat → Prop} {v : Value} {L : List (List Int)} (h : Row K1 45 w base ok v L) (k : Nat) (hk : v.ownBlock = some k) : k < w.heap.size := (row_own (row_bound h) k hk).2.2
set_option maxHeartbeats 4000000 in
set_option maxRecDepth 100000 in
theorem texts_eq (A A' : Option Addr) (c c' : Nat) (L : List (List Int)) (w : World) (hr : Kd.C K1 w A L.length L) (hr' : Kd.C K1 w A' L.length L) (hl : L.length ≤ 100000) :
    Calls Try.prog 48 #[.slice A L.length c, .slice A' L.length c'] w fun e w' => e = .returned (.bool true) ∧ Drawn0 w w' := by
  have HR := Lib.hid hr
  have HR' := Lib.hid hr'
  clear hr hr'
  go_enter Try.func48, Try.ntmps48
  go_wp2_with fail
  go_loopw [13] (fun i wr => ∃ (k n : Nat), k ≤ L.length ∧ i = .int .i64 k ∧ wr = w.drewN n) (fun i _ => L.length - (intOf i).toNat)
  case atStart => exact ⟨0, 0, Nat.zero_le _, rfl, rfl⟩
  case round =>
    obtain ⟨k, n, hk, rfl, rfl⟩ := hrel
    by_cases hlt : k < L.length
    · have hlt' : (k : Int) < (L.length : Int) := by omega
      have hlb : decide ((k : Int) < (L.length : Int)) = true := decide_eq_true hlt'
      obtain ⟨ad, B, d, rfl, hc, hC⟩ := at_K1 HR.out k hlt
      obtain ⟨ad', B', d', rfl, hc', hC'⟩ := at_K1 HR'.out k hlt
      generalize L.getD k [] = b at hc hC hc' hC'
      have hcv : ∀ n, (convert 45 9 (.slice B b.length d)).run Try.prog (w.drewN n) = .ok (.string (strOfNums b)) (w.drewN n) := fun n => Kd.C_string (P := Try.prog) (A := B) (c := d) Try.underlying45 Try.underlying5 Try.underlying9 (Kd.C_drewN hC n)
      have hcv' : ∀ n, (convert 45 9 (.slice B' b.length d')).run Try.prog (w.drewN n) = .ok (.string (strOfNums b)) (w.drewN n) := fun n => Kd.C_string (P := Try.prog) (A := B') (c := d') Try.underlying45 Try.underlying5 Try.underlying9 (Kd.C_drewN hC' n)
      clear hC hC'
      go_wp2_with fail
      go_quiet (fail)
      go_wp2_with fail
      exact ⟨⟨k + 1, _, by omega, by go_num, rfl⟩, by simp [intOf]; omega⟩
    · have hlt' : ¬ (k : Int) < (L.length : Int) := by omega
      go_wp2_with fail
      go_ret
      exact ⟨rfl, n, rfl⟩
set_option maxHeartbeats 40000000 in
set_option maxRecDepth 100000 in
theorem acts_walk (A : Option Addr) (cap : Nat) (l : List S63) (w : World) (hr : Kd.C k63 w A l.length l) :
    Calls Try.prog 8 #[.slice A l.length cap] w fun e w' => e = .returned (.bool true) ∧ Below w.heap.size w w' := by
  have LV := Lib.hid (lives33)
  by_cases h1 : 100 < l.length
  · have h1' : (100 : Int) < (l.length : Int) := by omega
    go_enter Try.func8, Try.ntmps8
    go_wp2_with fail
    refine (LV.out _).mono ?_
    rintro e w' ⟨rfl, hb⟩
    go_wp2_with fail
    go_ret
    exact ⟨rfl, hb⟩
  have h1' : ¬ (100 : Int) < (l.length : Int) := by omega
  have N := Lib.hid (New_c w)
  have HR := Lib.hid hr
  clear hr
  have hu := Try.underlying63
  have hu2 := Try.underlying61
  generalize hg : w.heap.size = g at N
  go_enter Try.func8, Try.ntmps8
  go_wp2_with fail
  refine N.out.mono ?_
  rintro e w1 ⟨rfl, hw1⟩
  have hn1 : NetAt w1 g g [] [] (fun k => k = g) := new_net w1 g (by rw [← hw1, ← hg]; exact new_at _ _)
  have HB1 : Hid (Below g w w1) := Lib.hid (by rw [← hw1, ← hg]; exact bl_all (Below.refl _ w) _)
  have hs1 : w1.heap.size = g + 1 := by rw [← hw1, ← hg]; simp
  clear hw1 N
  go_wp2_with fail
  generalize hw2 : w1.alloc (.cells #[.slice none 0 0, .slice none 0 0] 61) = w2
  have hbl : Below w1.heap.size w1 w2 := by rw [← hw2]; exact bl_all (Below.refl _ _) _
  have hr2 : RNetAt w2 (g + 1) (g + 1) [] [] (fun k => k = g + 1) := Rnew_net w2 (g + 1) (by have := new_at w1 (.cells #[.slice none 0 0, .slice none 0 0] 61); rw [hs1] at this; rw [← hw2]; exact this)
  have hbs : BS w g [] [] w2 := ⟨_, _, net_below hn1 hbl, hr2, fun k hk he => by omega, bl_to HB1.out hbl (by omega)⟩
  try rw [hs1]
  clear hw2 hn1 HB1 hs1 hbl hr2
  go_loopw [29] (fun i wr => ∃ (k : Nat) (L0 L1 : List (List Int)), k ≤ l.length ∧ i = .int .i64 k ∧ BS w g L0 L1 wr)
    (fun i _ => l.length - (intOf i).toNat)
  case atStart => exact ⟨0, [], [], Nat.zero_le _, rfl, hbs⟩
  case round =>
    obtain ⟨k, L0, L1, hk, rfl, hBS⟩ := hrel
    have HBS := Lib.hid hBS
    have hgl := bs_lt hBS
    clear hBS hbs
    by_cases hlt : k < l.length
    · have hlt' : (k : Int) < (l.length : Int) := by omega
      have hbw : Below w.heap.size w wr := by rw [hg]; exact bs_bel HBS.out
      obtain ⟨ad, B0, c0, rfl, z0, z1, z2, z3, hCB0⟩ := at_act HR.out k hlt
      have x0 := cell_kept z0 (Kept.of_below hbw (fun _ => False)) (fun h => h)
      have x1 := cell_kept z1 (Kept.of_below hbw (fun _ => False)) (fun h => h)
      have x2 := cell_kept z2 (Kept.of_below hbw (fun _ => False)) (fun h => h)
      have x3 := cell_kept z3 (Kept.of_below hbw (fun _ => False)) (fun h => h)
      have HCB0 := Lib.hid hCB0
      clear z0 z1 z2 z3 hCB0 hbw
      generalize l[k].f3 = b at x3 HCB0
      generalize l[k].f0 = y0 at x0
      generalize l[k].f1 = y1 at x1
      generalize l[k].f2 = y2 at x2
      have hAS0 := as_of HBS.out (o := .cells #[] 0) #[.int .i64 y0, .int .i64 y1, .int .i64 y2, .slice B0 b.length c0] 63
      have HAS0 := Lib.hid hAS0
      clear hAS0
      by_cases hb2 : 300 < b.length
      · have q2 : (300 : Int) < (b.length : Int) := by omega
        go_wp2_with fail
        refine (LV.out _).mono ?_
        rintro e w' ⟨rfl, hb3⟩
        go_wp2_with fail
        go_ret
        exact ⟨rfl, bl_to (as_bel HAS0.out) hb3 (by have := as_lt HAS0.out; omega)⟩
      have q2 : ¬ (300 : Int) < (b.length : Int) := by omega
      have c1 : (wr.alloc (.cells #[.int .i64 y0, .int .i64 y1, .int .i64 y2, .slice B0 b.length c0] 63)).cell? ⟨wr.heap.size, 1, none⟩ = some (.int .i64 y1) := blk_cell (as_blk HAS0.out) 1
      have c2 : (wr.alloc (.cells #[.int .i64 y0, .int .i64 y1, .int .i64 y2, .slice B0 b.length c0] 63)).cell? ⟨wr.heap.size, 2, none⟩ = some (.int .i64 y2) := blk_cell (as_blk HAS0.out) 2
      have c3 : (wr.alloc (.cells #[.int .i64 y0, .int .i64 y1, .int .i64 y2, .slice B0 b.length c0] 63)).cell? ⟨wr.heap.size, 3, none⟩ = some (.slice B0 b.length c0) := blk_cell (as_blk HAS0.out) 3
      have HC := Lib.hid (And.intro c1 (And.intro c2 c3))
      clear c1 c2 c3
      by_cases k0 : y0 = 0
      · subst k0
        go_upto_region 11 with (fail)
        generalize wr.alloc (.cells #[.int .i64 0, .int .i64 y1, .int .i64 y2, .slice B0 b.length c0] 63) = wa at HAS0 HC ⊢
        generalize wr.heap.size = q at HAS0 HC ⊢
        have c1 := HC.out.1
        have c2 := HC.out.2.1
        have c3 := HC.out.2.2
        have PA := Lib.hid (fun u nb L0 L1 (h : AS w g q nb (.cells #[.int .i64 0, .int .i64 y1, .int .i64 y2, .slice B0 b.length c0] 63 (0, 0)) L0 L1 L0 L1 u) => as_put y1 B0 c0 b h (by omega) (Kd.C_below HCB0.out (by rw [hg]; exact as_bel h)))
        have PB := Lib.hid (fun u nb M0 M1 L0 L1 (h : AS w g q nb (.cells #[.int .i64 0, .int .i64 y1, .int .i64 y2, .slice B0 b.length c0] 63 (0, 0)) M0 M1 L0 L1 u) => as_rput y1 B0 c0 b h (by omega) (Kd.C_below HCB0.out (by rw [hg]; exact as_bel h)))
        have PA1 := Lib.hid (fun u nb h => PA.out u nb L0 L1 h)
        have PB1 := Lib.hid (fun u nb h => PB.out u nb (putN y1 b L0 L1).2.1 (putN y1 b L0 L1).2.2 L0 L1 h)
        clear PA PB
        generalize putN y1 b L0 L1 = P at PA1 PB1
        obtain ⟨pc, A0, A1⟩ := P
        dsimp only at PA1 PB1
        have hASd : AS w g q q (.cells #[.int .i64 0, .int .i64 y1, .int .i64 y2, .slice B0 b.length c0] 63 (0, 0)) L0 L1 L0 L1 wa.drew := as_drew HAS0.out 1
        refine start_ (n := 13) (S := fun w' => w'.cell? ⟨q, 1, none⟩ = some (.int .i64 y1) ∧ w'.cell? ⟨q, 3, none⟩ = some (.slice B0 b.length c0)) (ds := []) #[false, false, false, false, false, false, false, false, false, false, false, false, false] (by kernel_rfl) rfl rfl ⟨c1, c3⟩ (fun hHeld => ?_)
        refine pure_ (i := 0) (N := some 42) (v := ?_) (a' := ?_) #[true, false, false, false, false, false, false, false, false, false, false, false, false] rfl rfl (by kernel_rfl) (fun _ _ _ h => h) (Or.inl ⟨by rfl, ?_⟩) ?_ ?_
        rotate_left
        · intro w'
          go_simp
          with_reducible rfl
        rotate_left
        · simp only [Act.put, List.setIfInBounds_toArray, List.set_cons_zero, List.set_cons_succ, i64_w, i32_w]
          rfl
        refine pure_ (i := 1) (N := some 43) (v := ?_) (a' := ?_) #[true, true, false, false, false, false, false, false, false, false, false, false, false] rfl rfl (by kernel_rfl) (fun _ _ _ h => h) (Or.inl ⟨by rfl, ?_⟩) ?_ ?_
        rotate_left
        · intro w'
          go_simp
          with_reducible rfl
        rotate_left
        · simp only [Act.put, List.setIfInBounds_toArray, List.set_cons_zero, List.set_cons_succ, i64_w, i32_w]
          rfl
        refine pure_ (i := 3) (N := some 45) (v := ?_) (a' := ?_) #[true, true, false, true, false, false, false, false, false, false, false, false, false] rfl rfl (by kernel_rfl) (fun _ _ _ h => h) (Or.inl ⟨by rfl, ?_⟩) ?_ ?_
        rotate_left
        · intro w'
          go_simp
          with_reducible rfl
        rotate_left
        · simp only [Act.put, List.setIfInBounds_toArray, List.set_cons_zero, List.set_cons_succ, i64_w, i32_w]
          rfl
        refine pure_ (i := 6) (N := some 48) (v := ?_) (a' := ?_) #[true, true, false, true, false, false, true, false, false, false, false, false, false] rfl rfl (by kernel_rfl) (fun _ _ _ h => h) (Or.inl ⟨by rfl, ?_⟩) ?_ ?_
        rotate_left
        · intro w'
          go_simp
          with_reducible rfl
        rotate_left
        · simp only [Act.put, List.setIfInBounds_toArray, List.set_cons_zero, List.set_cons_succ, i64_w, i32_w]
          rfl
        refine pure_ (i := 7) (N := some 49) (v := ?_) (a' := ?_) #[true, true, false, true, false, false, true, true, false, false, false, false, false] rfl rfl (by kernel_rfl) (fun _ _ _ h => h) (Or.inl ⟨by rfl, ?_⟩) ?_ ?_
        rotate_left
        · intro w'
          go_simp
          with_reducible rfl
        rotate_left
        · simp only [Act.put, List.setIfInBounds_toArray, List.set_cons_zero, List.set_cons_succ, i64_w, i32_w]
          rfl
        refine pure_ (i := 9) (N := some 51) (v := ?_) (a' := ?_) #[true, true, false, true, false, false, true, true, false, true, false, false, false] rfl rfl (by kernel_rfl) (fun _ _ _ h => h) (Or.inl ⟨by rfl, ?_⟩) ?_ ?_
        rotate_left
        · intro w'
          go_simp
          with_reducible rfl
        rotate_left
        · simp only [Act.put, List.setIfInBounds_toArray, List.set_cons_zero, List.set_cons_succ, i64_w, i32_w]
          rfl
        refine take_ (i := 2) (N := some 44) (v := ?_) (a' := ?_) #[true, true, true, true, false, false, true, true, false, true, false, false, false] rfl rfl (by kernel_rfl) (fun _ _ _ h => h) (Or.inl ⟨by rfl, ?_⟩) hHeld ?_ ?_
        rotate_left
        · rintro w' ⟨s0, s1⟩
          go_simp
          with_reducible rfl
        rotate_left
        · simp only [Act.put, List.setIfInBounds_toArray, List.set_cons_zero, List.set_cons_succ, i64_w, i32_w]
          rfl
        refine take_ (i := 4) (N := some 46) (v := ?_) (a' := ?_) #[true, true, true, true, true, false, true, true, false, true, false, false, false] rfl rfl (by kernel_rfl) (fun _ _ _ h => h) (Or.inl ⟨by rfl, ?_⟩) hHeld ?_ ?_
        rotate_left
        · rintro w' ⟨s0, s1⟩
          go_simp
          with_reducible rfl
        rotate_left
        · simp only [Act.put, List.setIfInBounds_toArray, List.set_cons_zero, List.set_cons_succ, i64_w, i32_w]
          rfl
        refine take_ (i := 8) (N := some 50) (v := ?_) (a' := ?_) #[true, true, true, true, true, false, true, true, true, true, false, false, false] rfl rfl (by kernel_rfl) (fun _ _ _ h => h) (Or.inl ⟨by rfl, ?_⟩) hHeld ?_ ?_
        rotate_left
        · rintro w' ⟨s0, s1⟩
          go_simp
          with_reducible rfl
        rotate_left
        · simp only [Act.put, List.setIfInBounds_toArray, List.set_cons_zero, List.set_cons_succ, i64_w, i32_w]
          rfl
        refine take_ (i := 10) (N := some 52) (v := ?_) (a' := ?_) #[true, true, true, true, true, false, true, true, true, true, true, false, false] rfl rfl (by kernel_rfl) (fun _ _ _ h => h) (Or.inl ⟨by rfl, ?_⟩) hHeld ?_ ?_
        rotate_left
        · rintro w' ⟨s0, s1⟩
          go_simp
          with_reducible rfl
        rotate_left
        · simp only [Act.put, List.setIfInBounds_toArray, List.set_cons_zero, List.set_cons_succ, i64_w, i32_w]
          rfl
        refine one_ (i := 5) (N := some 47) #[true, true, true, true, true, true, true, true, true, true, true, false, false] rfl rfl (by kernel_rfl) (by decide) (fun K hK => ?_)
        refine goes_ Try.func38 (by kernel_rfl) rfl #[.pointer (some ⟨g, 0, none⟩), .int .i64 y1, .slice B0 b.length c0] (by rfl) rfl rfl (by (try simp only [List.map_toArray, List.map_cons, List.map_nil]); first | done | rfl) ?_
        refine (PA1.out _ _ hASd).mono ?_
        rintro e w3 ⟨rfl, has3⟩
        refine ⟨_, rfl, ?_⟩
        refine hK.out _ _ ⟨blk_cell (as_blk has3) 1, blk_cell (as_blk has3) 3⟩ (fun hHeld => ?_)
        clear hK K
        refine norm_ (a' := ?_) ?_ ?_
        rotate_left
        · show Act.put _ (some 47) _ = _
          simp only [Act.put, List.setIfInBounds_toArray, List.set_cons_zero, List.set_cons_succ, i64_w, i32_w]
          rfl
        refine one_ (i := 11) (N := some 53) #[true, true, true, true, true, true, true, true, true, true, true, true, false] rfl rfl (by kernel_rfl) (by decide) (fun K hK => ?_)
        refine goes_ Try.func39 (by kernel_rfl) rfl #[.pointer (some ⟨g + 1, 0, none⟩), .int .i64 y1, .slice B0 b.length c0] (by rfl) rfl rfl (by (try simp only [List.map_toArray, List.map_cons, List.map_nil]); first | done | rfl) ?_
        refine (PB1.out _ _ has3).mono ?_
        rintro e w4 ⟨rfl, has4⟩
        refine ⟨_, rfl, ?_⟩
        refine hK.out _ _ ⟨blk_cell (as_blk has4) 1, blk_cell (as_blk has4) 3⟩ (fun hHeld => ?_)
        clear hK K
        refine norm_ (a' := ?_) ?_ ?_
        rotate_left
        · show Act.put _ (some 53) _ = _
          simp only [Act.put, List.setIfInBounds_toArray, List.set_cons_zero, List.set_cons_succ, i64_w, i32_w]
          rfl
        refine pure_ (i := 12) (N := some 54) (v := ?_) (a' := ?_) #[true, true, true, true, true, true, true, true, true, true, true, true, true] rfl rfl (by kernel_rfl) (fun _ _ _ h => h) (Or.inl ⟨by rfl, ?_⟩) ?_ ?_
        rotate_left
        · intro w'
          go_simp
          with_reducible rfl
        rotate_left
        · simp only [Act.put, List.setIfInBounds_toArray, List.set_cons_zero, List.set_cons_succ, i64_w, i32_w]
          rfl
        refine done_ (by kernel_rfl) ?_
        have hAS := has4
        clear PA1 PB1 HAS0 c1 c2 c3 HC hASd has3 hHeld has4
        have hl5 := as_lt hAS
        have q1 : w4.cell? ⟨q, 1, none⟩ = some (.int .i64 y1) := blk_cell (as_blk hAS) 1
        have q2 : w4.cell? ⟨q, 2, none⟩ = some (.int .i64 y2) := blk_cell (as_blk hAS) 2
        have AT := Lib.hid (as_at y1 y2 hAS)
        have HAS5 := Lib.hid hAS
        clear hAS
        go_wp2_with fail
        refine AT.out.mono ?_
        rintro e w6 ⟨v6, rfl, hr6, hb6⟩
        have hAS6 := as_below HAS5.out hb6
        obtain ⟨A6, c6, rfl⟩ := Kd.R_slice hr6
        have HR6 := Lib.hid hr6
        have q16 : w6.cell? ⟨q, 1, none⟩ = some (.int .i64 y1) := blk_cell (as_blk hAS6) 1
        have q26 : w6.cell? ⟨q, 2, none⟩ = some (.int .i64 y2) := blk_cell (as_blk hAS6) 2
        have RAT := Lib.hid (as_rat y1 y2 hAS6)
        have HAS6 := Lib.hid hAS6
        clear hAS6 hr6 hb6 AT HAS5 q1 q2
        go_wp2_with fail
        refine RAT.out.mono ?_
        rintro e w7 ⟨v7, rfl, hr7, hb7⟩
        have hAS7 := as_below HAS6.out hb7
        have hr67 := Kd.R_below HR6.out hb7
        obtain ⟨A7, c7, rfl, _, hC7⟩ := Kd.R_reads hr7
        have hC6 := (Kd.R_reads' hr67).2.2
        have hcv1 : ∀ n, (convert 45 9 (.slice A6 (atN y1 y2 A0 A1).2.length c6)).run Try.prog (w7.drewN n) = .ok (.string (strOfNums (atN y1 y2 A0 A1).2)) (w7.drewN n) := fun n => Kd.C_string (P := Try.prog) (A := A6) (c := c6) Try.underlying45 Try.underlying5 Try.underlying9 (Kd.C_drewN hC6 n)
        have hcv2 : ∀ n, (convert 45 9 (.slice A7 (atN y1 y2 A0 A1).2.length c7)).run Try.prog (w7.drewN n) = .ok (.string (strOfNums (atN y1 y2 A0 A1).2)) (w7.drewN n) := fun n => Kd.C_string (P := Try.prog) (A := A7) (c := c7) Try.underlying45 Try.underlying5 Try.underlying9 (Kd.C_drewN hC7 n)
        have q17 : w7.cell? ⟨q, 1, none⟩ = some (.int .i64 y1) := blk_cell (as_blk hAS7) 1
        have HAS7 := Lib.hid hAS7
        have LQ1 := Lib.hid (fun n => Calls.quiet_of (w := w7) (n := n) ((as_len y1 (as_drew HAS7.out n)).mono fun e w' ⟨he, hw⟩ => ⟨he, 0, hw.symm⟩))
        have LQ2 := Lib.hid (fun n => Calls.quiet_of (w := w7) (n := n) ((as_rlen y1 (as_drew HAS7.out n)).mono fun e w' ⟨he, hw⟩ => ⟨he, 0, hw.symm⟩))
        clear hAS7 hr67 hr7 hb7 hC6 hC7 RAT HAS6 HR6 q16 q26
        generalize (atN y1 y2 A0 A1).1 = ca at hcv1 hcv2 ⊢
        generalize (atN y1 y2 A0 A1).2 = ba at hcv1 hcv2 ⊢
        generalize lenN y1 A0 A1 = la at LQ1 LQ2
        go_wp2_with fail
        go_quiet (first | (go_at_call 46; exact LQ1.out _) | (go_at_call 47; exact LQ2.out _))
        go_wp2_with fail
        refine ⟨⟨k + 1, _, _, by omega, by go_num, bs_of (as_drew HAS7.out _)⟩, by simp [intOf]; omega⟩
      by_cases k1 : y0 = 1
      · subst k1
        clear k0
        go_wp2_with fail
        generalize wr.alloc (.cells #[.int .i64 1, .int .i64 y1, .int .i64 y2, .slice B0 b.length c0] 63) = wa at HAS0 HC ⊢
        generalize wr.heap.size = q at HAS0 HC ⊢
        have c1 := HC.out.1
        have c2 := HC.out.2.1
        have c3 := HC.out.2.2
        refine (as_take y1 y2 HAS0.out).mono ?_
        rintro e w3 ⟨⟨v3, rfl, hr3⟩, has3⟩
        obtain ⟨A3, c3', rfl⟩ := Kd.R_slice hr3
        have hqa := (as_lt HAS0.out).2
        have d1 : w3.cell? ⟨q, 1, none⟩ = some (.int .i64 y1) := blk_cell (as_blk has3) 1
        have d2 : w3.cell? ⟨q, 2, none⟩ = some (.int .i64 y2) := blk_cell (as_blk has3) 2
        have HR3 := Lib.hid hr3
        have HAS3 := Lib.hid has3
        clear hr3 has3 c1 c2 c3 HC
        go_wp2_with fail
        refine (as_rtake y1 y2 HAS3.out).mono ?_
        rintro e w4 ⟨⟨v4, rfl, hr4⟩, has4, hper⟩
        have hr34 := hper _ _ _ (Nat.le_of_lt hqa) HR3.out
        obtain ⟨A4, c4, rfl, _, hC4⟩ := Kd.R_reads hr4
        have hC3 := (Kd.R_reads' hr34).2.2
        have hcv3 : (convert 45 9 (.slice A3 (atN y1 y2 L0 L1).2.length c3')).run Try.prog w4 = .ok (.string (strOfNums (atN y1 y2 L0 L1).2)) w4 := Kd.C_string (P := Try.prog) (A := A3) (c := c3') Try.underlying45 Try.underlying5 Try.underlying9 hC3
        have hcv4 : (convert 45 9 (.slice A4 (atN y1 y2 L0 L1).2.length c4)).run Try.prog w4 = .ok (.string (strOfNums (atN y1 y2 L0 L1).2)) w4 := Kd.C_string (P := Try.prog) (A := A4) (c := c4) Try.underlying45 Try.underlying5 Try.underlying9 hC4
        clear hr34 hr4 hC3 hC4 HR3 HAS3 hper HAS0 d1 d2 hqa
        generalize takeN y1 y2 L0 L1 = T at has4
        generalize (atN y1 y2 L0 L1).1 = ca0 at hcv3 hcv4 ⊢
        generalize (atN y1 y2 L0 L1).2 = ba0 at hcv3 hcv4 ⊢
        obtain ⟨tc, A0, A1⟩ := T
        dsimp only at has4
        have hAS := has4
        clear has4
        have hl5 := as_lt hAS
        have q1 : w4.cell? ⟨q, 1, none⟩ = some (.int .i64 y1) := blk_cell (as_blk hAS) 1
        have q2 : w4.cell? ⟨q, 2, none⟩ = some (.int .i64 y2) := blk_cell (as_blk hAS) 2
        have AT := Lib.hid (as_at y1 y2 hAS)
        have HAS5 := Lib.hid hAS
        clear hAS
        go_wp2_with fail
        refine AT.out.mono ?_
        rintro e w6 ⟨v6, rfl, hr6, hb6⟩
        have hAS6 := as_below HAS5.out hb6
        obtain ⟨A6, c6, rfl⟩ := Kd.R_slice hr6
        have HR6 := Lib.hid hr6
        have q16 : w6.cell? ⟨q, 1, none⟩ = some (.int .i64 y1) := blk_cell (as_blk hAS6) 1
        have q26 : w6.cell? ⟨q, 2, none⟩ = some (.int .i64 y2) := blk_cell (as_blk hAS6) 2
        have RAT := Lib.hid (as_rat y1 y2 hAS6)
        have HAS6 := Lib.hid hAS6
        clear hAS6 hr6 hb6 AT HAS5 q1 q2
        go_wp2_with fail
        refine RAT.out.mono ?_
        rintro e w7 ⟨v7, rfl, hr7, hb7⟩
        have hAS7 := as_below HAS6.out hb7
        have hr67 := Kd.R_below HR6.out hb7
        obtain ⟨A7, c7, rfl, _, hC7⟩ := Kd.R_reads hr7
        have hC6 := (Kd.R_reads' hr67).2.2
        have hcv1 : ∀ n, (convert 45 9 (.slice A6 (atN y1 y2 A0 A1).2.length c6)).run Try.prog (w7.drewN n) = .ok (.string (strOfNums (atN y1 y2 A0 A1).2)) (w7.drewN n) := fun n => Kd.C_string (P := Try.prog) (A := A6) (c := c6) Try.underlying45 Try.underlying5 Try.underlying9 (Kd.C_drewN hC6 n)
        have hcv2 : ∀ n, (convert 45 9 (.slice A7 (atN y1 y2 A0 A1).2.length c7)).run Try.prog (w7.drewN n) = .ok (.string (strOfNums (atN y1 y2 A0 A1).2)) (w7.drewN n) := fun n => Kd.C_string (P := Try.prog) (A := A7) (c := c7) Try.underlying45 Try.underlying5 Try.underlying9 (Kd.C_drewN hC7 n)
        have q17 : w7.cell? ⟨q, 1, none⟩ = some (.int .i64 y1) := blk_cell (as_blk hAS7) 1
        have HAS7 := Lib.hid hAS7
        have LQ1 := Lib.hid (fun n => Calls.quiet_of (w := w7) (n := n) ((as_len y1 (as_drew HAS7.out n)).mono fun e w' ⟨he, hw⟩ => ⟨he, 0, hw.symm⟩))
        have LQ2 := Lib.hid (fun n => Calls.quiet_of (w := w7) (n := n) ((as_rlen y1 (as_drew HAS7.out n)).mono fun e w' ⟨he, hw⟩ => ⟨he, 0, hw.symm⟩))
        clear hAS7 hr67 hr7 hb7 hC6 hC7 RAT HAS6 HR6 q16 q26
        generalize (atN y1 y2 A0 A1).1 = ca at hcv1 hcv2 ⊢
        generalize (atN y1 y2 A0 A1).2 = ba at hcv1 hcv2 ⊢
        generalize lenN y1 A0 A1 = la at LQ1 LQ2
        go_wp2_with fail
        go_quiet (first | (go_at_call 46; exact LQ1.out _) | (go_at_call 47; exact LQ2.out _))
        go_wp2_with fail
        refine ⟨⟨k + 1, _, _, by omega, by go_num, bs_of (as_drew HAS7.out _)⟩, by simp [intOf]; omega⟩
      by_cases k2 : y0 = 2
      · subst k2
        clear k0 k1
        go_upto_region 19 with (fail)
        generalize wr.alloc (.cells #[.int .i64 2, .int .i64 y1, .int .i64 y2, .slice B0 b.length c0] 63) = wa at HAS0 HC ⊢
        generalize wr.heap.size = q at HAS0 HC ⊢
        have c1 := HC.out.1
        have c2 := HC.out.2.1
        have c3 := HC.out.2.2
        have PA1 := Lib.hid (fun u nb (h : AS w g q nb (.cells #[.int .i64 2, .int .i64 y1, .int .i64 y2, .slice B0 b.length c0] 63 (0, 0)) L0 L1 L0 L1 u) => as_double y1 y2 h)
        have PB1 := Lib.hid (fun u nb (h : AS w g q nb (.cells #[.int .i64 2, .int .i64 y1, .int .i64 y2, .slice B0 b.length c0] 63 (0, 0)) (doubleN y1 y2 L0 L1).2.1 (doubleN y1 y2 L0 L1).2.2 L0 L1 u) => as_rdouble y1 y2 h)
        generalize doubleN y1 y2 L0 L1 = P at PA1 PB1
        obtain ⟨pc, A0, A1⟩ := P
        dsimp only at PA1 PB1
        have hASd : AS w g q q (.cells #[.int .i64 2, .int .i64 y1, .int .i64 y2, .slice B0 b.length c0] 63 (0, 0)) L0 L1 L0 L1 wa.drew := as_drew HAS0.out 1
        refine start_ (n := 13) (S := fun w' => w'.cell? ⟨q, 1, none⟩ = some (.int .i64 y1) ∧ w'.cell? ⟨q, 2, none⟩ = some (.int .i64 y2)) (ds := []) #[false, false, false, false, false, false, false, false, false, false, false, false, false] (by kernel_rfl) rfl rfl ⟨c1, c2⟩ (fun hHeld => ?_)
        refine pure_ (i := 0) (N := some 87) (v := ?_) (a' := ?_) #[true, false, false, false, false, false, false, false, false, false, false, false, false] rfl rfl (by kernel_rfl) (fun _ _ _ h => h) (Or.inl ⟨by rfl, ?_⟩) ?_ ?_
        rotate_left
        · intro w'
          go_simp
          with_reducible rfl
        rotate_left
        · simp only [Act.put, List.setIfInBounds_toArray, List.set_cons_zero, List.set_cons_succ, i64_w, i32_w]
          rfl
        refine pure_ (i := 1) (N := some 88) (v := ?_) (a' := ?_) #[true, true, false, false, false, false, false, false, false, false, false, false, false] rfl rfl (by kernel_rfl) (fun _ _ _ h => h) (Or.inl ⟨by rfl, ?_⟩) ?_ ?_
        rotate_left
        · intro w'
          go_simp
          with_reducible rfl
        rotate_left
        · simp only [Act.put, List.setIfInBounds_toArray, List.set_cons_zero, List.set_cons_succ, i64_w, i32_w]
          rfl
        refine pure_ (i := 3) (N := some 90) (v := ?_) (a' := ?_) #[true, true, false, true, false, false, false, false, false, false, false, false, false] rfl rfl (by kernel_rfl) (fun _ _ _ h => h) (Or.inl ⟨by rfl, ?_⟩) ?_ ?_
        rotate_left
        · intro w'
          go_simp
          with_reducible rfl
        rotate_left
        · simp only [Act.put, List.setIfInBounds_toArray, List.set_cons_zero, List.set_cons_succ, i64_w, i32_w]
          rfl
        refine pure_ (i := 6) (N := some 93) (v := ?_) (a' := ?_) #[true, true, false, true, false, false, true, false, false, false, false, false, false] rfl rfl (by kernel_rfl) (fun _ _ _ h => h) (Or.inl ⟨by rfl, ?_⟩) ?_ ?_
        rotate_left
        · intro w'
          go_simp
          with_reducible rfl
        rotate_left
        · simp only [Act.put, List.setIfInBounds_toArray, List.set_cons_zero, List.set_cons_succ, i64_w, i32_w]
          rfl
        refine pure_ (i := 7) (N := some 94) (v := ?_) (a' := ?_) #[true, true, false, true, false, false, true, true, false, false, false, false, false] rfl rfl (by kernel_rfl) (fun _ _ _ h => h) (Or.inl ⟨by rfl, ?_⟩) ?_ ?_
        rotate_left
        · intro w'
          go_simp
          with_reducible rfl
        rotate_left
        · simp only [Act.put, List.setIfInBounds_toArray, List.set_cons_zero, List.set_cons_succ, i64_w, i32_w]
          rfl
        refine pure_ (i := 9) (N := some 96) (v := ?_) (a' := ?_) #[true, true, false, true, false, false, true, true, false, true, false, false, false] rfl rfl (by kernel_rfl) (fun _ _ _ h => h) (Or.inl ⟨by rfl, ?_⟩) ?_ ?_
        rotate_left
        · intro w'
          go_simp
          with_reducible rfl
        rotate_left
        · simp only [Act.put, List.setIfInBounds_toArray, List.set_cons_zero, List.set_cons_succ, i64_w, i32_w]
          rfl
        refine take_ (i := 2) (N := some 89) (v := ?_) (a' := ?_) #[true, true, true, true, false, false, true, true, false, true, false, false, false] rfl rfl (by kernel_rfl) (fun _ _ _ h => h) (Or.inl ⟨by rfl, ?_⟩) hHeld ?_ ?_
        rotate_left
        · rintro w' ⟨s0, s1⟩
          go_simp
          with_reducible rfl
        rotate_left
        · simp only [Act.put, List.setIfInBounds_toArray, List.set_cons_zero, List.set_cons_succ, i64_w, i32_w]
          rfl
        refine take_ (i := 4) (N := some 91) (v := ?_) (a' := ?_) #[true, true, true, true, true, false, true, true, false, true, false, false, false] rfl rfl (by kernel_rfl) (fun _ _ _ h => h) (Or.inl ⟨by rfl, ?_⟩) hHeld ?_ ?_
        rotate_left
        · rintro w' ⟨s0, s1⟩
          go_simp
          with_reducible rfl
        rotate_left
        · simp only [Act.put, List.setIfInBounds_toArray, List.set_cons_zero, List.set_cons_succ, i64_w, i32_w]
          rfl
        refine take_ (i := 8) (N := some 95) (v := ?_) (a' := ?_) #[true, true, true, true, true, false, true, true, true, true, false, false, false] rfl rfl (by kernel_rfl) (fun _ _ _ h => h) (Or.inl ⟨by rfl, ?_⟩) hHeld ?_ ?_
        rotate_left
        · rintro w' ⟨s0, s1⟩
          go_simp
          with_reducible rfl
        rotate_left
        · simp only [Act.put, List.setIfInBounds_toArray, List.set_cons_zero, List.set_cons_succ, i64_w, i32_w]
          rfl
        refine take_ (i := 10) (N := some 97) (v := ?_) (a' := ?_) #[true, true, true, true, true, false, true, true, true, true, true, false, false] rfl rfl (by kernel_rfl) (fun _ _ _ h => h) (Or.inl ⟨by rfl, ?_⟩) hHeld ?_ ?_
        rotate_left
        · rintro w' ⟨s0, s1⟩
          go_simp
          with_reducible rfl
        rotate_left
        · simp only [Act.put, List.setIfInBounds_toArray, List.set_cons_zero, List.set_cons_succ, i64_w, i32_w]
          rfl
        refine one_ (i := 5) (N := some 92) #[true, true, true, true, true, true, true, true, true, true, true, false, false] rfl rfl (by kernel_rfl) (by decide) (fun K hK => ?_)
        refine goes_ Try.func42 (by kernel_rfl) rfl #[.pointer (some ⟨g, 0, none⟩), .int .i64 y1, .int .i64 y2] (by rfl) rfl rfl (by (try simp only [List.map_toArray, List.map_cons, List.map_nil]); first | done | rfl) ?_
        refine (PA1.out _ _ hASd).mono ?_
        rintro e w3 ⟨rfl, has3⟩
        refine ⟨_, rfl, ?_⟩
        refine hK.out _ _ ⟨blk_cell (as_blk has3) 1, blk_cell (as_blk has3) 2⟩ (fun hHeld => ?_)
        clear hK K
        refine norm_ (a' := ?_) ?_ ?_
        rotate_left
        · show Act.put _ (some 92) _ = _
          simp only [Act.put, List.setIfInBounds_toArray, List.set_cons_zero, List.set_cons_succ, i64_w, i32_w]
          rfl
        refine one_ (i := 11) (N := some 98) #[true, true, true, true, true, true, true, true, true, true, true, true, false] rfl rfl (by kernel_rfl) (by decide) (fun K hK => ?_)
        refine goes_ Try.func43 (by kernel_rfl) rfl #[.pointer (some ⟨g + 1, 0, none⟩), .int .i64 y1, .int .i64 y2] (by rfl) rfl rfl (by (try simp only [List.map_toArray, List.map_cons, List.map_nil]); first | done | rfl) ?_
        refine (PB1.out _ _ has3).mono ?_
        rintro e w4 ⟨rfl, has4⟩
        refine ⟨_, rfl, ?_⟩
        refine hK.out _ _ ⟨blk_cell (as_blk has4) 1, blk_cell (as_blk has4) 2⟩ (fun hHeld => ?_)
        clear hK K
        refine norm_ (a' := ?_) ?_ ?_
        rotate_left
        · show Act.put _ (some 98) _ = _
          simp only [Act.put, List.setIfInBounds_toArray, List.set_cons_zero, List.set_cons_succ, i64_w, i32_w]
          rfl
        refine pure_ (i := 12) (N := some 99) (v := ?_) (a' := ?_) #[true, true, true, true, true, true, true, true, true, true, true, true, true] rfl rfl (by kernel_rfl) (fun _ _ _ h => h) (Or.inl ⟨by rfl, ?_⟩) ?_ ?_
        rotate_left
        · intro w'
          go_simp
          with_reducible rfl
        rotate_left
        · simp only [Act.put, List.setIfInBounds_toArray, List.set_cons_zero, List.set_cons_succ, i64_w, i32_w]
          rfl
        refine done_ (by kernel_rfl) ?_
        have hAS := has4
        clear PA1 PB1 HAS0 c1 c2 c3 HC hASd has3 hHeld has4
        have hl5 := as_lt hAS
        have q1 : w4.cell? ⟨q, 1, none⟩ = some (.int .i64 y1) := blk_cell (as_blk hAS) 1
        have q2 : w4.cell? ⟨q, 2, none⟩ = some (.int .i64 y2) := blk_cell (as_blk hAS) 2
        have AT := Lib.hid (as_at y1 y2 hAS)
        have HAS5 := Lib.hid hAS
        clear hAS
        go_wp2_with fail
        refine AT.out.mono ?_
        rintro e w6 ⟨v6, rfl, hr6, hb6⟩
        have hAS6 := as_below HAS5.out hb6
        obtain ⟨A6, c6, rfl⟩ := Kd.R_slice hr6
        have HR6 := Lib.hid hr6
        have q16 : w6.cell? ⟨q, 1, none⟩ = some (.int .i64 y1) := blk_cell (as_blk hAS6) 1
        have q26 : w6.cell? ⟨q, 2, none⟩ = some (.int .i64 y2) := blk_cell (as_blk hAS6) 2
        have RAT := Lib.hid (as_rat y1 y2 hAS6)
        have HAS6 := Lib.hid hAS6
        clear hAS6 hr6 hb6 AT HAS5 q1 q2
        go_wp2_with fail
        refine RAT.out.mono ?_
        rintro e w7 ⟨v7, rfl, hr7, hb7⟩
        have hAS7 := as_below HAS6.out hb7
        have hr67 := Kd.R_below HR6.out hb7
        obtain ⟨A7, c7, rfl, _, hC7⟩ := Kd.R_reads hr7
        have hC6 := (Kd.R_reads' hr67).2.2
        have hcv1 : ∀ n, (convert 45 9 (.slice A6 (atN y1 y2 A0 A1).2.length c6)).run Try.prog (w7.drewN n) = .ok (.string (strOfNums (atN y1 y2 A0 A1).2)) (w7.drewN n) := fun n => Kd.C_string (P := Try.prog) (A := A6) (c := c6) Try.underlying45 Try.underlying5 Try.underlying9 (Kd.C_drewN hC6 n)
        have hcv2 : ∀ n, (convert 45 9 (.slice A7 (atN y1 y2 A0 A1).2.length c7)).run Try.prog (w7.drewN n) = .ok (.string (strOfNums (atN y1 y2 A0 A1).2)) (w7.drewN n) := fun n => Kd.C_string (P := Try.prog) (A := A7) (c := c7) Try.underlying45 Try.underlying5 Try.underlying9 (Kd.C_drewN hC7 n)
        have q17 : w7.cell? ⟨q, 1, none⟩ = some (.int .i64 y1) := blk_cell (as_blk hAS7) 1
        have HAS7 := Lib.hid hAS7
        have LQ1 := Lib.hid (fun n => Calls.quiet_of (w := w7) (n := n) ((as_len y1 (as_drew HAS7.out n)).mono fun e w' ⟨he, hw⟩ => ⟨he, 0, hw.symm⟩))
        have LQ2 := Lib.hid (fun n => Calls.quiet_of (w := w7) (n := n) ((as_rlen y1 (as_drew HAS7.out n)).mono fun e w' ⟨he, hw⟩ => ⟨he, 0, hw.symm⟩))
        clear hAS7 hr67 hr7 hb7 hC6 hC7 RAT HAS6 HR6 q16 q26
        generalize (atN y1 y2 A0 A1).1 = ca at hcv1 hcv2 ⊢
        generalize (atN y1 y2 A0 A1).2 = ba at hcv1 hcv2 ⊢
        generalize lenN y1 A0 A1 = la at LQ1 LQ2
        go_wp2_with fail
        go_quiet (first | (go_at_call 46; exact LQ1.out _) | (go_at_call 47; exact LQ2.out _))
        go_wp2_with fail
        refine ⟨⟨k + 1, _, _, by omega, by go_num, bs_of (as_drew HAS7.out _)⟩, by simp [intOf]; omega⟩
      · have e0 : (y0 == 0) = false := by simpa using k0
        have e1 : (y0 == 1) = false := by simpa using k1
        have e2 : (y0 == 2) = false := by simpa using k2
        clear k0 k1 k2
        go_upto_region 21 with (fail)
        generalize wr.alloc (.cells #[.int .i64 y0, .int .i64 y1, .int .i64 y2, .slice B0 b.length c0] 63) = wa at HAS0 HC ⊢
        generalize wr.heap.size = q at HAS0 HC ⊢
        have c1 := HC.out.1
        have c2 := HC.out.2.1
        have c3 := HC.out.2.2
        have hAS := HAS0.out
        clear HAS0 c1 c2 c3 HC e0 e1 e2
        have hl5 := as_lt hAS
        have q1 : wa.cell? ⟨q, 1, none⟩ = some (.int .i64 y1) := blk_cell (as_blk hAS) 1
        have q2 : wa.cell? ⟨q, 2, none⟩ = some (.int .i64 y2) := blk_cell (as_blk hAS) 2
        have AT := Lib.hid (as_at y1 y2 hAS)
        have HAS5 := Lib.hid hAS
        clear hAS
        go_wp2_with fail
        refine AT.out.mono ?_
        rintro e w6 ⟨v6, rfl, hr6, hb6⟩
        have hAS6 := as_below HAS5.out hb6
        obtain ⟨A6, c6, rfl⟩ := Kd.R_slice hr6
        have HR6 := Lib.hid hr6
        have q16 : w6.cell? ⟨q, 1, none⟩ = some (.int .i64 y1) := blk_cell (as_blk hAS6) 1
        have q26 : w6.cell? ⟨q, 2, none⟩ = some (.int .i64 y2) := blk_cell (as_blk hAS6) 2
        have RAT := Lib.hid (as_rat y1 y2 hAS6)
        have HAS6 := Lib.hid hAS6
        clear hAS6 hr6 hb6 AT HAS5 q1 q2
        go_wp2_with fail
        refine RAT.out.mono ?_
        rintro e w7 ⟨v7, rfl, hr7, hb7⟩
        have hAS7 := as_below HAS6.out hb7
        have hr67 := Kd.R_below HR6.out hb7
        obtain ⟨A7, c7, rfl, _, hC7⟩ := Kd.R_reads hr7
        have hC6 := (Kd.R_reads' hr67).2.2
        have hcv1 : ∀ n, (convert 45 9 (.slice A6 (atN y1 y2 L0 L1).2.length c6)).run Try.prog (w7.drewN n) = .ok (.string (strOfNums (atN y1 y2 L0 L1).2)) (w7.drewN n) := fun n => Kd.C_string (P := Try.prog) (A := A6) (c := c6) Try.underlying45 Try.underlying5 Try.underlying9 (Kd.C_drewN hC6 n)
        have hcv2 : ∀ n, (convert 45 9 (.slice A7 (atN y1 y2 L0 L1).2.length c7)).run Try.prog (w7.drewN n) = .ok (.string (strOfNums (atN y1 y2 L0 L1).2)) (w7.drewN n) := fun n => Kd.C_string (P := Try.prog) (A := A7) (c := c7) Try.underlying45 Try.underlying5 Try.underlying9 (Kd.C_drewN hC7 n)
        have q17 : w7.cell? ⟨q, 1, none⟩ = some (.int .i64 y1) := blk_cell (as_blk hAS7) 1
        have HAS7 := Lib.hid hAS7
        have LQ1 := Lib.hid (fun n => Calls.quiet_of (w := w7) (n := n) ((as_len y1 (as_drew HAS7.out n)).mono fun e w' ⟨he, hw⟩ => ⟨he, 0, hw.symm⟩))
        have LQ2 := Lib.hid (fun n => Calls.quiet_of (w := w7) (n := n) ((as_rlen y1 (as_drew HAS7.out n)).mono fun e w' ⟨he, hw⟩ => ⟨he, 0, hw.symm⟩))
        clear hAS7 hr67 hr7 hb7 hC6 hC7 RAT HAS6 HR6 q16 q26
        generalize (atN y1 y2 L0 L1).1 = ca at hcv1 hcv2 ⊢
        generalize (atN y1 y2 L0 L1).2 = ba at hcv1 hcv2 ⊢
        generalize lenN y1 L0 L1 = la at LQ1 LQ2
        go_wp2_with fail
        go_quiet (first | (go_at_call 46; exact LQ1.out _) | (go_at_call 47; exact LQ2.out _))
        go_wp2_with fail
        refine ⟨⟨k + 1, _, _, by omega, by go_num, bs_of (as_drew HAS7.out _)⟩, by simp [intOf]; omega⟩
    · have hlt' : ¬ (k : Int) < (l.length : Int) := by omega
      clear hk hlt
      go_wp2_with fail
      go_loopw [15] (fun i wr => ∃ (d : Nat), d ≤ 2 ∧ i = .int .i64 d ∧ BS w g L0 L1 wr) (fun i _ => 2 - (intOf i).toNat)
      case atStart => exact ⟨0, by omega, rfl, HBS.out⟩
      case round =>
        obtain ⟨d, hd, rfl, hB2⟩ := hrel
        have HB2 := Lib.hid hB2
        clear hB2 HBS
        rcases (show d = 0 ∨ d = 1 ∨ d = 2 by omega) with rfl | rfl | rfl
        · go_wp2_with fail
          obtain ⟨ws, rfl⟩ : ∃ ws, ws = wr := ⟨_, rfl⟩
          go_loopw [16, 17] (fun ov iv u => ∃ (m : Nat), m ≤ L0.length ∧ iv = .int .i64 m ∧ CS ws w g L0 L1 ov (L0.take m) u)
            (fun ov iv _ => L0.length - (intOf iv).toNat)
          case atStart => exact ⟨0, Nat.zero_le _, rfl, cs_start HB2.out⟩
          case round =>
            obtain ⟨m, hm, rfl, hCS⟩ := hrel
            obtain ⟨S0, hN0⟩ := cs_net hCS
            obtain ⟨A5, c5, rfl, hc5, hC5⟩ := row_reads (cs_row hCS).1
            have HCS := Lib.hid hCS
            have LQ := Lib.hid (Len_0 g g L0 L1 S0 _ hN0)
            have AQ := Lib.hid (At_c g g 0 (m : Int) L0 L1 S0 _ hN0)
            have hs := cs_ref hCS
            have HS := Lib.hid hs
            have hs4 : L0.length ≤ 4096 := hs.2.2.1
            clear hCS hN0 hs
            by_cases hlm : m < L0.length
            · have hlm' : (m : Int) < (L0.length : Int) := by omega
              have hat : atN 0 (m : Int) L0 L1 = (0, L0.getD m []) := by
                unfold atN dirL
                rw [if_neg (by omega)]
                rw [if_pos rfl, if_neg (by omega), Int.toNat_natCast]
              have htk : L0.take (m + 1) = L0.take m ++ [L0.getD m []] := by
                rw [List.take_add_one, List.getElem?_eq_getElem hlm, List.getD_eq_getElem?_getD, List.getElem?_eq_getElem hlm]; rfl
              have HT := Lib.hid htk
              rw [hat] at AQ
              clear hat htk hC5
              have hln : (L0.take m).length ≤ 4096 := by rw [List.length_take]; omega
              generalize L0.getD m [] = b at AQ HT
              generalize L0.take m = M at HCS HT hc5 hln ⊢
              go_wp2_with fail
              refine LQ.out.mono ?_
              rintro e w' ⟨rfl, rfl⟩
              go_wp2_with fail
              refine AQ.out.mono ?_
              rintro e w6 ⟨v6, rfl, hr6, hb6⟩
              obtain ⟨A6, c6, rfl⟩ := Kd.R_slice hr6
              have HR6 := Lib.hid hr6
              have HCS6 := Lib.hid (cs_below HCS.out hb6)
              have hws : ws.heap.size ≤ wr.heap.size := (cs_row HCS.out).2.size
              have hlt6 := Lib.hid (row_lt (cs_row HCS.out).1)
              clear hr6 hb6
              go_wp2_with (first
                | ((with_reducible refine gate_builtin (b := .append) (xs := #[.tmp 158, .tmp 160]) rfl ?_); at_builtin; refine row_append_list (d := K1) (base := ws.heap.size) (w := w6.alloc (.cells #[.slice A6 b.length c6] 45)) (v := .slice A5 M.length c5) (ok := fun k => ws.heap.size ≤ k) (okp := fun k => wr.heap.size ≤ k ∧ k < w6.heap.size) (xs := M) (ys := [b]) (m := 1) (c2 := 1) (A := some ⟨w6.heap.size, 0, none⟩) rfl (.tmp 158) (.tmp 160) 58 45 (.slice none 0 0) 24 rfl Try.underlying58 info45 rfl (by decide) (by omega) rfl rfl ?aO ?aM ?aP ?aF ?aS ?aL ?_; (case aO => exact (cs_row (cs_below HCS6.out (bl_all (Below.refl _ _) _))).1); (case aM => exact made_box HR6.out hws); (case aP => exact fun k hk => ⟨by omega, fun he => by have := hlt6.out k he.symm; omega⟩); (case aF => exact fun k hk => by have := (cs_row (cs_below HCS6.out (bl_all (Below.refl _ _) (.cells #[.slice A6 b.length c6] 45)))).2.size; omega); (case aS => exact (cs_row (cs_below HCS6.out (bl_all (Below.refl _ _) (.cells #[.slice A6 b.length c6] 45)))).2.size); (case aL => omega); intro v8 w8 hrow8 hgr8 hat8; have HCS8 := Lib.hid (cs_put (cs_below HCS6.out (bl_all (Below.refl _ _) _)) hgr8 (fun k hk => row_own (cs_row HCS.out).1 k hk) hrow8); clear hrow8 hgr8 hat8))
              refine ⟨⟨v8, .int .i64 ((m : Int) + 1), _, _, _, _, _, _, _, _, _, _, _, _, _, _, _, _, _, _, _, _, ⟨m + 1, by omega, by go_num, by rw [HT.out]; exact HCS8.out⟩, rfl⟩, by simp [intOf]; omega⟩
            · have hlm' : ¬ (m : Int) < (L0.length : Int) := by omega
              have hM : L0.take m = L0 := List.take_of_length_le (by omega)
              rw [hM] at hc5 hC5 HCS ⊢
              obtain ⟨A9, c9, hq9, hC9⟩ := HS.out.1
              have TQ := Lib.hid (texts_eq A5 A9 c5 c9 L0 wr hC5 hC9 (by omega))
              clear AQ hC5 hC9 hM
              go_wp2_with fail
              refine LQ.out.mono ?_
              rintro e w' ⟨rfl, rfl⟩
              go_wp2_with fail
              refine TQ.out.mono ?_
              rintro e w' ⟨rfl, n9, rfl⟩
              go_wp2_with fail
              exact ⟨⟨1, by omega, by go_num, cs_bs (cs_below HCS.out (bl_drew (Below.refl _ _) n9))⟩, by simp [intOf]⟩
        · go_wp2_with fail
          obtain ⟨ws, rfl⟩ : ∃ ws, ws = wr := ⟨_, rfl⟩
          go_loopw [16, 17] (fun ov iv u => ∃ (m : Nat), m ≤ L1.length ∧ iv = .int .i64 m ∧ CS ws w g L0 L1 ov (L1.take m) u)
            (fun ov iv _ => L1.length - (intOf iv).toNat)
          case atStart => exact ⟨0, Nat.zero_le _, rfl, cs_start HB2.out⟩
          case round =>
            obtain ⟨m, hm, rfl, hCS⟩ := hrel
            obtain ⟨S0, hN0⟩ := cs_net hCS
            obtain ⟨A5, c5, rfl, hc5, hC5⟩ := row_reads (cs_row hCS).1
            have HCS := Lib.hid hCS
            have LQ := Lib.hid (Len_1 g g L0 L1 S0 _ hN0)
            have AQ := Lib.hid (At_c g g 1 (m : Int) L0 L1 S0 _ hN0)
            have hs := cs_ref hCS
            have HS := Lib.hid hs
            have hs4 : L1.length ≤ 4096 := hs.2.2.2
            clear hCS hN0 hs
            by_cases hlm : m < L1.length
            · have hlm' : (m : Int) < (L1.length : Int) := by omega
              have hat : atN 1 (m : Int) L0 L1 = (0, L1.getD m []) := by
                unfold atN dirL
                rw [if_neg (by omega)]
                rw [if_neg (show ¬ (1 : Int) = 0 by omega), if_neg (by omega), Int.toNat_natCast]
              have htk : L1.take (m + 1) = L1.take m ++ [L1.getD m []] := by
                rw [List.take_add_one, List.getElem?_eq_getElem hlm, List.getD_eq_getElem?_getD, List.getElem?_eq_getElem hlm]; rfl
              have HT := Lib.hid htk
              rw [hat] at AQ
              clear hat htk hC5
              have hln : (L1.take m).length ≤ 4096 := by rw [List.length_take]; omega
              generalize L1.getD m [] = b at AQ HT
              generalize L1.take m = M at HCS HT hc5 hln ⊢
              go_wp2_with fail
              refine LQ.out.mono ?_
              rintro e w' ⟨rfl, rfl⟩
              go_wp2_with fail
              refine AQ.out.mono ?_
              rintro e w6 ⟨v6, rfl, hr6, hb6⟩
              obtain ⟨A6, c6, rfl⟩ := Kd.R_slice hr6
              have HR6 := Lib.hid hr6
              have HCS6 := Lib.hid (cs_below HCS.out hb6)
              have hws : ws.heap.size ≤ wr.heap.size := (cs_row HCS.out).2.size
              have hlt6 := Lib.hid (row_lt (cs_row HCS.out).1)
              clear hr6 hb6
              go_wp2_with (first
                | ((with_reducible refine gate_builtin (b := .append) (xs := #[.tmp 158, .tmp 160]) rfl ?_); at_builtin; refine row_append_list (d := K1) (base := ws.heap.size) (w := w6.alloc (.cells #[.slice A6 b.length c6] 45)) (v := .slice A5 M.length c5) (ok := fun k => ws.heap.size ≤ k) (okp := fun k => wr.heap.size ≤ k ∧ k < w6.heap.size) (xs := M) (ys := [b]) (m := 1) (c2 := 1) (A := some ⟨w6.heap.size, 0, none⟩) rfl (.tmp 158) (.tmp 160) 58 45 (.slice none 0 0) 24 rfl Try.underlying58 info45 rfl (by decide) (by omega) rfl rfl ?aO ?aM ?aP ?aF ?aS ?aL ?_; (case aO => exact (cs_row (cs_below HCS6.out (bl_all (Below.refl _ _) _))).1); (case aM => exact made_box HR6.out hws); (case aP => exact fun k hk => ⟨by omega, fun he => by have := hlt6.out k he.symm; omega⟩); (case aF => exact fun k hk => by have := (cs_row (cs_below HCS6.out (bl_all (Below.refl _ _) (.cells #[.slice A6 b.length c6] 45)))).2.size; omega); (case aS => exact (cs_row (cs_below HCS6.out (bl_all (Below.refl _ _) (.cells #[.slice A6 b.length c6] 45)))).2.size); (case aL => omega); intro v8 w8 hrow8 hgr8 hat8; have HCS8 := Lib.hid (cs_put (cs_below HCS6.out (bl_all (Below.refl _ _) _)) hgr8 (fun k hk => row_own (cs_row HCS.out).1 k hk) hrow8); clear hrow8 hgr8 hat8))
              refine ⟨⟨v8, .int .i64 ((m : Int) + 1), _, _, _, _, _, _, _, _, _, _, _, _, _, _, _, _, _, _, _, _, ⟨m + 1, by omega, by go_num, by rw [HT.out]; exact HCS8.out⟩, rfl⟩, by simp [intOf]; omega⟩
            · have hlm' : ¬ (m : Int) < (L1.length : Int) := by omega
              have hM : L1.take m = L1 := List.take_of_length_le (by omega)
              rw [hM] at hc5 hC5 HCS ⊢
              obtain ⟨A9, c9, hq9, hC9⟩ := HS.out.2.1
              have TQ := Lib.hid (texts_eq A5 A9 c5 c9 L1 wr hC5 hC9 (by omega))
              clear AQ hC5 hC9 hM
              go_wp2_with fail
              refine LQ.out.mono ?_
              rintro e w' ⟨rfl, rfl⟩
              go_wp2_with fail
              refine TQ.out.mono ?_
              rintro e w' ⟨rfl, n9, rfl⟩
              go_wp2_with fail
              exact ⟨⟨2, by omega, by go_num, cs_bs (cs_below HCS.out (bl_drew (Below.refl _ _) n9))⟩, by simp [intOf]⟩
        · go_wp2_with fail
          refine (LV.out _).mono ?_
          rintro e w' ⟨rfl, hb3⟩
          go_wp2_with fail
          go_ret
          exact ⟨rfl, bl_to (bs_bel HB2.out) hb3 (by have := bs_lt HB2.out; omega)⟩
end Go.Proofs.Ytajpnohhahffbaa.NetW
