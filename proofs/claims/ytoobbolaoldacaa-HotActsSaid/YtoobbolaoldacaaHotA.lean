/-
  The walk of HotActs.
-/
import Derived.Test.YtoobbolaoldacaaHotX
import Derived.Test.YtoobbolaoldacaaHotN
import Derived.Deep.RegionHeld3
import Derived.Test.YtoobbolaoldacaaWLast
import Derived.Test.YtoobbolaoldacaaWTab
namespace Go.Proofs.Ytoobbolaoldacaa.HotW
open Go.RowKit Go.Proofs.Ytoobbolaoldacaa Go.Proofs.Ytoobbolaoldacaa.Hot Go.Proofs.Ytoobbolaoldacaa.HotBP Go.Proofs.Ytoobbolaoldacaa.HotP Go.Proofs.Ytoobbolaoldacaa.BitsPlain Go.Proofs.Ytoobbolaoldacaa.RowOwn Go.Proofs.Ytoobbolaoldacaa.CloneI Go.Proofs.YtoobbolaoldacaaW.PrintWords Go.Proofs.YtoobbolaoldacaaW.PrintLast Go.Proofs.YtoobbolaoldacaaW.PrintMore
set_option linter.unusedVariables false
structure S81 where
  f0 : Int
  f1 : Int
  f2 : Int
def k81 : Kd S81 := Kd.iso (Kd.pair (Kd.int .i64) (Kd.pair (Kd.int .u64) (Kd.int .u64))) (fun x : S81 => (x.f0, x.f1, x.f2))
theorem k81_open {w : World} {x : S81} {cs : List Value} (h : k81.K w x cs) : cs = [.int .i64 x.f0, .int .u64 x.f1, .int .u64 x.f2] := by
  obtain ⟨_, _, rfl, rfl, ⟨_, _, rfl, rfl, rfl⟩⟩ := h
  rfl
theorem at_act {w : World} {A : Option Addr} {n : Nat} {xs : List S81} (h : Kd.C k81 w A n xs) (i : Nat) (hi : i < xs.length) :
    ∃ ad, A = some ad ∧ w.cell? (ad.add (i * 3)) = some (.int .i64 xs[i].f0) ∧ w.cell? ⟨(ad.add (i * 3)).block, (ad.add (i * 3)).off + 1, none⟩ = some (.int .u64 xs[i].f1) ∧ w.cell? ⟨(ad.add (i * 3)).block, (ad.add (i * 3)).off + 2, none⟩ = some (.int .u64 xs[i].f2) := by
  have hn : xs.length = n := h.1
  obtain ⟨ad, c, e, _, hK, hc0⟩ := Kd.C_get h (⟨0, 0, 0⟩ : S81) (i : Int) (by omega) (by omega)
  rw [Int.toNat_natCast] at hK hc0
  rw [List.getD_eq_getElem?_getD, List.getElem?_eq_getElem hi] at hK
  have hc : ∀ j u, c[j]? = some u → w.cell? (ad.add (i * 3 + j)) = some u := hc0
  obtain rfl := k81_open hK
  exact ⟨ad, e, hc 0 _ rfl, by rw [← add_field _ _ 1 (by omega)]; exact hc 1 _ rfl, by rw [← add_field _ _ 2 (by omega)]; exact hc 2 _ rfl⟩
/-- both sets side by side; the block q is the act's -/
def AS (w0 : World) (g q : Nat) (o : Obj) (m : Int) (L M : List Int) (u : World) : Prop :=
  ∃ S S', HotAt u g g m L S ∧ RHotAt u (g + 1) (g + 1) m M S' ∧ (∀ k, S k → ¬ S' k ∧ k ≠ q) ∧ (∀ k, S' k → k ≠ q) ∧ u.heap[q]? = some o ∧ Below g w0 u
def BS (w0 : World) (g : Nat) (m : Int) (L : List Int) (u : World) : Prop :=
  ∃ S S', HotAt u g g m L S ∧ RHotAt u (g + 1) (g + 1) m L S' ∧ (∀ k, S k → ¬ S' k) ∧ Below g w0 u
theorem hot_S {w : World} {g base : Nat} {m : Int} {L : List Int} {S : Nat → Prop} (h : HotAt w g base m L S) (k : Nat) (hk : S k) : base ≤ k ∧ k < w.heap.size := by
  obtain ⟨v, ok, hh, hr, hS, hb, hd, hl, hn⟩ := h
  exact hl k hk
theorem rhot_S {w : World} {g base : Nat} {m : Int} {L : List Int} {S : Nat → Prop} (h : RHotAt w g base m L S) (k : Nat) (hk : S k) : base ≤ k ∧ k < w.heap.size := by
  obtain ⟨v, ok, hh, hr, hS, hb, hd, hl, hn⟩ := h
  exact hl k hk
section
variable {w0 u : World} {g q : Nat} {o : Obj} {m : Int} {L M A0 : List Int}
theorem as_lt (h : AS w0 g q o m L M u) : g < u.heap.size ∧ q < u.heap.size := by
  obtain ⟨S, S', hN, hR, hd, hd', hq, hb⟩ := h
  exact ⟨(hot_lt hN).2.1, lt_at hq⟩
theorem as_bel (h : AS w0 g q o m L M u) : Below g w0 u := by
  obtain ⟨S, S', hN, hR, hd, hd', hq, hb⟩ := h
  exact hb
theorem as_blk (h : AS w0 g q o m L M u) : u.heap[q]? = some o := by
  obtain ⟨S, S', hN, hR, hd, hd', hq, hb⟩ := h
  exact hq
theorem as_below {u' : World} (h : AS w0 g q o m L M u) (hb' : Below u.heap.size u u') : AS w0 g q o m L M u' := by
  have hl := as_lt h
  obtain ⟨S, S', hN, hR, hd, hd', hq, hb⟩ := h
  exact ⟨S, S', hot_below hN hb', rhot_below hR hb', hd, hd', keep_at_all hq hb', bl_to hb hb' (by omega)⟩
theorem as_hot {f : FuncId} {args : Array Value} {R : Ending → Prop} (h : AS w0 g q o m L M u)
    (hc : ∀ S, HotAt u g g m L S → Calls Try.prog f args u fun e w' => R e ∧ ∃ S1, HotAt w' g g m A0 S1 ∧ (∀ k, S1 k → S k ∨ u.heap.size ≤ k) ∧ OnlyS S u w') :
    Calls Try.prog f args u fun e w' => R e ∧ AS w0 g q o m A0 M w' := by
  have hl := as_lt h
  obtain ⟨S, S', hN, hR, hd, hd', hq, hb⟩ := h
  have hlr := rhot_S hR
  refine (hc S hN).mono ?_
  rintro e w' ⟨he, S1, hN1, hS1, ho⟩
  refine ⟨he, S1, S', hN1, rhot_only hR ho (fun k hk hs => (hd k hs).1 hk), fun k hk => ?_, hd', blk_only hq ho (fun hs => (hd q hs).2 rfl), hot_bl hN ho hb⟩
  rcases hS1 k hk with h1 | h1
  · exact hd k h1
  · exact ⟨fun hs => by have := hlr k hs; omega, by omega⟩
theorem as_ref {f : FuncId} {args : Array Value} {R : Ending → Prop} (h : AS w0 g q o m L M u)
    (hc : ∀ S, RHotAt u (g + 1) (g + 1) m M S → Calls Try.prog f args u fun e w' => R e ∧ ∃ S1, RHotAt w' (g + 1) (g + 1) m A0 S1 ∧ (∀ k, S1 k → S k ∨ u.heap.size ≤ k) ∧ OnlyS S u w') :
    Calls Try.prog f args u fun e w' => R e ∧ AS w0 g q o m L A0 w' := by
  have hl := as_lt h
  obtain ⟨S, S', hN, hR, hd, hd', hq, hb⟩ := h
  have hln := hot_S hN
  have hlr := rhot_S hR
  refine (hc S' hR).mono ?_
  rintro e w' ⟨he, S1, hR1, hS1, ho⟩
  refine ⟨he, S, S1, hot_only hN ho (fun k hk hs => (hd k hk).1 hs), hR1, fun k hk => ⟨fun hs => ?_, (hd k hk).2⟩, fun k hk => ?_, blk_only hq ho (fun hs => (hd' q hs) rfl), ho.to_below hb (fun k hk => by have := hlr k hk; omega) (by omega)⟩
  · rcases hS1 k hs with h1 | h1
    · exact (hd k hk).1 h1
    · have := hln k hk; omega
  · rcases hS1 k hk with h1 | h1
    · exact hd' k h1
    · omega
theorem as_at (h : AS w0 g q o m L M u) : ∃ S, HotAt u g g m L S := by
  obtain ⟨S, S', hN, _⟩ := h
  exact ⟨S, hN⟩
theorem as_rat (h : AS w0 g q o m L M u) : ∃ S, RHotAt u (g + 1) (g + 1) m M S := by
  obtain ⟨S, S', _, hR, _⟩ := h
  exact ⟨S', hR⟩
theorem bs_of (h : AS w0 g q o m L L u) : BS w0 g m L u := by
  obtain ⟨S, S', hN, hR, hd, hd', hq, hb⟩ := h
  exact ⟨S, S', hN, hR, fun k hk => (hd k hk).1, hb⟩
theorem as_of (h : BS w0 g m L u) (cs : Array Value) (t : TypeId) : AS w0 g u.heap.size (.cells cs t (0, 0)) m L L (u.alloc (.cells cs t (0, 0))) := by
  obtain ⟨S, S', hN, hR, hd, hb⟩ := h
  have hbl : Below u.heap.size u (u.alloc (.cells cs t (0, 0))) := bl_all (Below.refl _ _) _
  have hln := hot_S hN
  have hlr := rhot_S hR
  have hg := (hot_lt hN).2.1
  exact ⟨S, S', hot_below hN hbl, rhot_below hR hbl, fun k hk => ⟨hd k hk, by have := hln k hk; omega⟩, fun k hk => by have := hlr k hk; omega, new_at _ _, bl_to hb hbl (by omega)⟩
theorem bs_lt (h : BS w0 g m L u) : g < u.heap.size := by
  obtain ⟨S, S', hN, hR, hd, hb⟩ := h
  exact (hot_lt hN).2.1
theorem bs_bel (h : BS w0 g m L u) : Below g w0 u := by
  obtain ⟨S, S', hN, hR, hd, hb⟩ := h
  exact hb
theorem as_fits (need busy : Nat) (hm : 0 < m) (hn : need < 2 ^ 64) (hb : busy < 2 ^ 64) (h : AS w0 g q o m L M u) :
    Calls Try.prog 21 #[.pointer (some ⟨g, 0, none⟩), .int .u64 (need : Int), .int .u64 (busy : Int)] u fun e w' => e = .returned (.bool (fitsN m L need busy)) ∧ Below u.heap.size u w' := by
  obtain ⟨S, hS⟩ := as_at h
  exact Fits_c g g m L S need busy u hm hn hb hS
theorem as_rfits (need busy : Nat) (hG : HotP.Good M) (hn : need < 2 ^ 64) (hb : busy < 2 ^ 64) (h : AS w0 g q o m L M u) :
    Calls Try.prog 34 #[.pointer (some ⟨g + 1, 0, none⟩), .int .u64 (need : Int), .int .u64 (busy : Int)] u fun e w' => e = .returned (.bool (fitsN m M need busy)) ∧ Below u.heap.size u w' := by
  obtain ⟨S, hS⟩ := as_rat h
  have := RFits_c (g + 1) (g + 1) m M S need busy u hn hb hS
  rwa [fits_eq m M need busy hG hn] at this
theorem as_mask (hm : 0 < m) (h : AS w0 g q o m L M u) : Calls Try.prog 23 #[.pointer (some ⟨g, 0, none⟩)] u fun e w' => e = .returned (.int .u64 ((ofN L : Nat) : Int)) ∧ Below u.heap.size u w' := by
  obtain ⟨S, hS⟩ := as_at h
  exact (Mask_c g g m L S u hm hS).mono fun e w' ⟨he, hd⟩ => ⟨he, bl_drawn hd⟩
theorem as_rmask (h : AS w0 g q o m L M u) : Calls Try.prog 37 #[.pointer (some ⟨g + 1, 0, none⟩)] u fun e w' => e = .returned (.int .u64 ((ofN M : Nat) : Int)) ∧ Below u.heap.size u w' := by
  obtain ⟨S, hS⟩ := as_rat h
  exact (RMask_c (g + 1) (g + 1) m M S u hS).mono fun e w' ⟨he, hd⟩ => ⟨he, bl_drawn hd⟩
theorem as_order (hm : 0 < m) (h : AS w0 g q o m L M u) : Calls Try.prog 39 #[.pointer (some ⟨g, 0, none⟩)] u fun e w' => ∃ v, e = .returned v ∧ Kd.R KI 3 w' u.heap.size (fun _ => True) v L ∧ Below u.heap.size u w' := by
  obtain ⟨S, hS⟩ := as_at h
  exact Order_c g g m L S u hm hS
theorem as_load (x : Nat) (hm : 0 < m) (hx : x < 2 ^ 64) (h : AS w0 g q o m L M u) :
    Calls Try.prog 20 #[.pointer (some ⟨g, 0, none⟩), .int .u64 (x : Int)] u fun e w' => e = .returned (.tuple #[]) ∧ AS w0 g q o m (intsN (list x)) M w' :=
  as_hot h (fun S hS => Load_c g g m L S x u hm hx hS)
theorem as_rload (x : Nat) (hx : x < 2 ^ 64) (h : AS w0 g q o m L M u) :
    Calls Try.prog 35 #[.pointer (some ⟨g + 1, 0, none⟩), .int .u64 (x : Int)] u fun e w' => e = .returned (.tuple #[]) ∧ AS w0 g q o m L (intsN (list x)) w' :=
  as_ref h (fun S hS => RLoad_c (g + 1) (g + 1) m M S x u hx hS)
theorem as_use (need busy : Nat) (hm : 0 < m) (hn : need < 2 ^ 64) (hb : busy < 2 ^ 64) (hL : L.length ≤ 50000) (h : AS w0 g q o m L M u) :
    Calls Try.prog 22 #[.pointer (some ⟨g, 0, none⟩), .int .u64 (need : Int), .int .u64 (busy : Int)] u fun e w' => e = .returned (.tuple #[.bool (useN m L need busy).1.1, .bool (useN m L need busy).1.2]) ∧ AS w0 g q o m (useN m L need busy).2 M w' :=
  as_hot h (fun S hS => Use_c g g m L S need busy u hm hn hb hL hS)
theorem as_ruse (need busy : Nat) (hG : HotP.Good M) (hn : need < 2 ^ 64) (hb : busy < 2 ^ 64) (hL : M.length ≤ 50000) (h : AS w0 g q o m L M u) :
    Calls Try.prog 36 #[.pointer (some ⟨g + 1, 0, none⟩), .int .u64 (need : Int), .int .u64 (busy : Int)] u fun e w' => e = .returned (.tuple #[.bool (useN m M need busy).1.1, .bool (useN m M need busy).1.2]) ∧ AS w0 g q o m L (useN m M need busy).2 w' := by
  refine as_ref h (fun S hS => ?_)
  have := RUse_c (g + 1) (g + 1) m M S need busy u hn hb hL hS
  rwa [use_eq m M need busy hG hn] at this
end
/-- the reads at a round's head -/
def RS (w0 : World) (g q : Nat) (o : Obj) (m : Int) (L : List Int) (need busy : Nat) (v : World) : Prop :=
  v.cell? ⟨q, 1, none⟩ = some (.int .u64 (need : Int)) ∧ v.cell? ⟨q, 2, none⟩ = some (.int .u64 (busy : Int)) ∧ AS w0 g q o m L L v
theorem rs_below {w0 v v' : World} {g q : Nat} {o : Obj} {m : Int} {L : List Int} {need busy : Nat} (hq : ∃ z, o = .cells #[z, .int .u64 (need : Int), .int .u64 (busy : Int)] 81 (0, 0)) (hb : Below v.heap.size v v') (h : RS w0 g q o m L need busy v) : RS w0 g q o m L need busy v' := by
  obtain ⟨z, rfl⟩ := hq
  have h1 := as_below h.2.2 hb
  exact ⟨blk_cell (as_blk h1) 1, blk_cell (as_blk h1) 2, h1⟩
/-- the reads at a round's end -/
def QS (w0 : World) (g q : Nat) (o : Obj) (m : Int) (L : List Int) (A : Option Addr) (c : Nat) (v : World) : Prop :=
  v.cell? ⟨g + 1, 0, none⟩ = some (.slice A L.length c) ∧ AS w0 g q o m L L v ∧ Kd.C KI v A L.length L ∧ L.length ≤ c
theorem qs_below {w0 v v' : World} {g q : Nat} {o : Obj} {m : Int} {L : List Int} {A : Option Addr} {c : Nat} (hb : Below v.heap.size v v') (h : QS w0 g q o m L A c v) : QS w0 g q o m L A c v' := by
  obtain ⟨h1, h2, h3, h4⟩ := h
  refine ⟨(hb.cell (p := ⟨g + 1, 0, none⟩) ?_).trans h1, as_below h2 hb, Kd.C_below h3 hb, h4⟩
  obtain ⟨S, hS⟩ := as_rat h2
  exact (rhot_lt hS).2.1
theorem qs_start {w0 v : World} {g q : Nat} {o : Obj} {m : Int} {L : List Int} (h : AS w0 g q o m L L v) : ∃ A c, QS w0 g q o m L A c v := by
  obtain ⟨S, hS⟩ := as_rat h
  obtain ⟨_, A, c, hc, hl, hC, _⟩ := rhot_cells hS
  exact ⟨A, c, hc, h, hC, hl⟩
theorem ints_c (A A' : Option Addr) (c c' : Nat) (L : List Int) (u : World) (h : Kd.C KI u A L.length L) (hc : L.length ≤ c) (h' : Kd.C KI u A' L.length L) (hc' : L.length ≤ c') (hl : L.length ≤ 100000) :
    Calls Try.prog 38 #[.slice A L.length c, .slice A' L.length c'] u fun e w' => e = .returned (.bool true) ∧ Below u.heap.size u w' :=
  (twainref01_Ints.calls 100001 A c L A' c' L true u h hc h' hc' (ints_p L (by omega) 100001 (by omega))).mono fun e w' ⟨he, hd⟩ => ⟨he, bl_drawn hd⟩
set_option maxHeartbeats 4000000 in
set_option maxRecDepth 100000 in
theorem acts_walk (m : Int) (A : Option Addr) (cap : Nat) (l : List S81) (hw : ∀ y ∈ l, (Lit.int .u64 y.f1).wf = true ∧ (Lit.int .u64 y.f2).wf = true) (w : World) (hr : Kd.C k81 w A l.length l) :
    Calls Try.prog 7 #[.int .i64 m, .slice A l.length cap] w fun e w' => e = .returned (.bool true) ∧ Below w.heap.size w w' := by
  have LV := Lib.hid (lives09)
  by_cases h1 : 60 < l.length
  · have h1' : (60 : Int) < (l.length : Int) := by omega
    go_enter Try.func7, Try.ntmps7
    go_wp2_with fail
    refine (LV.out _).mono ?_
    rintro e w' ⟨rfl, hb⟩
    go_wp2_with fail
    go_ret
    exact ⟨rfl, hb⟩
  have h1' : ¬ (60 : Int) < (l.length : Int) := by omega
  by_cases hp : m < 1 ∨ 16 < m
  · have NN := Lib.hid (fun w => New_no m w hp)
    have RN := Lib.hid (fun w => RNew_no m w hp)
    clear hp hr hw
    have hgo : ∀ z : Int, z = (l.length : Int) → 0 ≤ z := by omega
    go_enter Try.func7, Try.ntmps7
    go_wp2_with fail
    refine (NN.out _).mono ?_
    rintro e w1 ⟨rfl, rfl⟩
    go_wp2_with fail
    refine (RN.out _).mono ?_
    rintro e w1 ⟨rfl, rfl⟩
    go_wp2_with fail
    go_loopw [9] (fun i wr => i = .int .i64 0 ∧ wr = w) (fun i _ => 1 - (intOf i).toNat)
    case atStart => exact ⟨rfl, rfl⟩
    case round =>
      obtain ⟨rfl, rfl⟩ := hrel
      by_cases hl : l.length = 0
      · have hl' : ¬ (0 : Int) < (l.length : Int) := by omega
        go_wp2_with fail
        refine (LV.out _).mono ?_
        rintro e w' ⟨rfl, hb⟩
        go_wp2_with fail
        go_ret
        exact ⟨rfl, hb⟩
      · have hl' : (0 : Int) < (l.length : Int) := by omega
        go_wp2_with fail
        refine (LV.out _).mono ?_
        rintro e w' ⟨rfl, hb⟩
        go_wp2_with fail
        go_ret
        exact ⟨rfl, hb⟩
  have hm1 : 1 ≤ m := by omega
  have hm2 : m ≤ 16 := by omega
  have N := Lib.hid (New_yes m w hm1 hm2)
  have HR := Lib.hid hr
  have HW := Lib.hid hw
  have RN := Lib.hid (fun u => RNew_yes m u hm1 hm2)
  clear hr hw hp
  generalize hg : w.heap.size = g at N
  go_enter Try.func7, Try.ntmps7
  go_wp2_with fail
  refine N.out.mono ?_
  rintro e w1 ⟨rfl, hw1⟩
  have hn1 : HotAt w1 g g m [] (fun k => k = g) := new_hot w1 g m (by rw [← hw1, ← hg]; exact new_at _ _)
  have HB1 : Hid (Below g w w1) := Lib.hid (by rw [← hw1, ← hg]; exact bl_all (Below.refl _ w) _)
  have hs1 : w1.heap.size = g + 1 := by rw [← hw1, ← hg]; simp
  have HN1 := Lib.hid hn1
  clear hw1 N hn1
  go_wp2_with fail
  refine (RN.out _).mono ?_
  rintro e w2 ⟨rfl, hw2⟩
  have hbl : Below w1.heap.size w1 w2 := by rw [← hw2]; exact bl_all (Below.refl _ _) _
  have hr2 : RHotAt w2 (g + 1) (g + 1) m [] (fun k => k = g + 1) := new_rhot w2 (g + 1) m (by have := new_at w1 (.cells #[.slice none 0 0, .int .i64 m] 85); rw [hs1] at this; rw [← hw2]; exact this)
  have hbs : BS w g m [] w2 := ⟨_, _, hot_below HN1.out hbl, hr2, fun k hk he => by omega, bl_to HB1.out hbl (by omega)⟩
  rw [hs1]
  have HBS0 := Lib.hid hbs
  clear hw2 HN1 HB1 hs1 hbl hr2 hbs
  go_wp2_with fail
  go_loopw [9] (fun i wr => ∃ (k : Nat) (L : List Int), k ≤ l.length ∧ i = .int .i64 k ∧ HotP.Good L ∧ BS w g m L wr)
    (fun i _ => l.length - (intOf i).toNat)
  case atStart => exact ⟨0, [], Nat.zero_le _, rfl, good_nil, HBS0.out⟩
  case round =>
    obtain ⟨k, L, hk, rfl, hG, hBS⟩ := hrel
    have HBS := Lib.hid hBS
    have HG := Lib.hid hG
    have hgl := bs_lt hBS
    clear hBS HBS0 hG
    by_cases hlt : k < l.length
    · have hlt' : (k : Int) < (l.length : Int) := by omega
      have hbw : Below w.heap.size w wr := by rw [hg]; exact bs_bel HBS.out
      obtain ⟨ad, rfl, z0, z1, z2⟩ := at_act HR.out k hlt
      obtain ⟨wy1, wy2⟩ := HW.out l[k] (List.getElem_mem hlt)
      obtain ⟨need, e1, hn⟩ := u64_of wy1
      obtain ⟨busy, e2, hbz⟩ := u64_of wy2
      rw [e1] at z1
      rw [e2] at z2
      have x0 := Go.Proofs.YtoobbolaoldacaaW.PrintWords.cell_kept z0 (Kept.of_below hbw (fun _ => False)) (fun h => h)
      have x1 := Go.Proofs.YtoobbolaoldacaaW.PrintWords.cell_kept z1 (Kept.of_below hbw (fun _ => False)) (fun h => h)
      have x2 := Go.Proofs.YtoobbolaoldacaaW.PrintWords.cell_kept z2 (Kept.of_below hbw (fun _ => False)) (fun h => h)
      clear z0 z1 z2 hbw wy1 wy2 e1 e2
      generalize l[k].f0 = y0 at x0
      have HAS0 := Lib.hid (as_of HBS.out #[.int .i64 y0, .int .u64 (need : Int), .int .u64 (busy : Int)] 81)
      have HX := Lib.hid (And.intro x0 (And.intro x1 x2))
      have hL50 : L.length ≤ 50000 := by have := good_len L HG.out; omega
      have FA := Lib.hid (fun u o q (h : AS w g q o m L L u) => as_fits need busy (by omega) hn hbz h)
      have FB := Lib.hid (fun u o q (h : AS w g q o m L L u) => as_rfits need busy HG.out hn hbz h)
      have LA := Lib.hid (fun u o q M (h : AS w g q o m L M u) => as_load need (by omega) hn h)
      have LB := Lib.hid (fun u o q M (h : AS w g q o m M L u) => as_rload need hn h)
      have UA := Lib.hid (fun u o q M (h : AS w g q o m L M u) => as_use need busy (by omega) hn hbz hL50 h)
      have UB := Lib.hid (fun u o q M (h : AS w g q o m M L u) => as_ruse need busy HG.out hn hbz hL50 h)
      clear HX
      go_wp2_with fail
      generalize wr.alloc (.cells #[.int .i64 y0, .int .u64 (need : Int), .int .u64 (busy : Int)] 81) = wa at HAS0 ⊢
      generalize hq : wr.heap.size = q at HAS0 ⊢
      clear x0 x1 x2 hgl hq
      generalize hoo : (Obj.cells #[.int .i64 y0, .int .u64 (need : Int), .int .u64 (busy : Int)] 81 (0, 0)) = o at HAS0
      have hS0 : wa.cell? ⟨q, 1, none⟩ = some (.int .u64 (need : Int)) ∧ wa.cell? ⟨q, 2, none⟩ = some (.int .u64 (busy : Int)) ∧ AS w g q o m L L wa := by subst hoo; exact ⟨blk_cell (as_blk HAS0.out) 1, blk_cell (as_blk HAS0.out) 2, HAS0.out⟩
      have HO := Lib.hid hoo
      clear HAS0 hoo
      generalize hF : fitsN m L need busy = bF at FA FB
      have HK : Hid (∀ v v', (v.cell? ⟨q, 1, none⟩ = some (.int .u64 (need : Int)) ∧ v.cell? ⟨q, 2, none⟩ = some (.int .u64 (busy : Int)) ∧ AS w g q o m L L v) → Below v.heap.size v v' → (v'.cell? ⟨q, 1, none⟩ = some (.int .u64 (need : Int)) ∧ v'.cell? ⟨q, 2, none⟩ = some (.int .u64 (busy : Int)) ∧ AS w g q o m L L v')) := Lib.hid (fun v v' h hb => rs_below ⟨_, HO.out.symm⟩ hb h)
      have h10 : wa.cell? ⟨q, 1, none⟩ = some (.int .u64 (need : Int)) := hS0.1
      have h20 : wa.cell? ⟨q, 2, none⟩ = some (.int .u64 (busy : Int)) := hS0.2.1
      clear hF
      go_region_held3 (fun v => v.cell? ⟨q, 1, none⟩ = some (.int .u64 (need : Int)) ∧ v.cell? ⟨q, 2, none⟩ = some (.int .u64 (busy : Int)) ∧ AS w g q o m L L v)
        (first | (with_reducible assumption) | (refine HK.out wa _ ?_ (Below.drew (Below.refl _ _)); with_reducible assumption) | (apply HK.out <;> with_reducible assumption))
        (first
          | (go_at_call 21; with_reducible refine (FA.out _ o q ?_).mono ?_; (exact (And.right (And.right (by with_reducible assumption)))); rintro e w3 ⟨rfl, hb3⟩)
          | (go_at_call 34; with_reducible refine (FB.out _ o q ?_).mono ?_; (exact (And.right (And.right (by with_reducible assumption)))); rintro e w3 ⟨rfl, hb3⟩))
      rename_i hH
      have HAS1 := Lib.hid hH.2.2
      clear hH hS0 h10 h20 HK
      have c0 : w3.cell? ⟨q, 0, none⟩ = some (.int .i64 y0) := blk_cell ((as_blk HAS1.out).trans (congrArg some HO.out.symm)) 0
      have c1 : w3.cell? ⟨q, 1, none⟩ = some (.int .u64 (need : Int)) := blk_cell ((as_blk HAS1.out).trans (congrArg some HO.out.symm)) 1
      have c2 : w3.cell? ⟨q, 2, none⟩ = some (.int .u64 (busy : Int)) := blk_cell ((as_blk HAS1.out).trans (congrArg some HO.out.symm)) 2
      by_cases hy : y0 = 1
      · subst hy
        clear UA UB FA FB
        have HGN := Lib.hid (good_list need)
        generalize intsN (list need) = N at LA LB HGN
        go_wp2_with fail
        refine (LA.out _ _ _ _ HAS1.out).mono ?_
        rintro e w4 ⟨rfl, has4⟩
        have d1 : w4.cell? ⟨q, 1, none⟩ = some (.int .u64 (need : Int)) := blk_cell ((as_blk has4).trans (congrArg some HO.out.symm)) 1
        have HAS4 := Lib.hid has4
        clear has4 c0 c1 c2 HAS1
        go_wp2_with fail
        refine (LB.out _ _ _ _ HAS4.out).mono ?_
        rintro e w5 ⟨rfl, has5⟩
        have HAS5 := Lib.hid has5
        clear has5 HAS4 d1 LA LB
        go_wp2_with fail
        obtain ⟨A8, c8, hQ0⟩ := qs_start HAS5.out
        have h8 : w5.cell? ⟨g + 1, 0, none⟩ = some (.slice A8 N.length c8) := hQ0.1
        have hQ : w5.cell? ⟨g + 1, 0, none⟩ = some (.slice A8 N.length c8) ∧ AS w g q o m N N w5 ∧ Kd.C KI w5 A8 N.length N ∧ N.length ≤ c8 := hQ0
        have HK : Hid (∀ v v', (v.cell? ⟨g + 1, 0, none⟩ = some (.slice A8 N.length c8) ∧ AS w g q o m N N v ∧ Kd.C KI v A8 N.length N ∧ N.length ≤ c8) → Below v.heap.size v v' → (v'.cell? ⟨g + 1, 0, none⟩ = some (.slice A8 N.length c8) ∧ AS w g q o m N N v' ∧ Kd.C KI v' A8 N.length N ∧ N.length ≤ c8)) := Lib.hid (fun v v' h hb => qs_below hb h)
        have hNl : N.length ≤ 100000 := by have := good_len N HGN.out; omega
        have MA := Lib.hid (fun u o q (h : AS w g q o m N N u) => as_mask (by omega) h)
        have MB := Lib.hid (fun u o q (h : AS w g q o m N N u) => as_rmask h)
        have OR := Lib.hid (fun u o q (h : AS w g q o m N N u) => as_order (by omega) h)
        have IN := Lib.hid (fun A A' c c' u h hc h' hc' => ints_c A A' c c' N u h hc h' hc' hNl)
        generalize ((ofN N : Nat) : Int) = mk at MA MB
        clear hQ0
        go_region_held3 (fun v => v.cell? ⟨g + 1, 0, none⟩ = some (.slice A8 N.length c8) ∧ AS w g q o m N N v ∧ Kd.C KI v A8 N.length N ∧ N.length ≤ c8)
          (first | (with_reducible assumption) | (refine HK.out w5 _ ?_ (Below.drew (Below.refl _ _)); with_reducible assumption) | (apply HK.out <;> with_reducible assumption))
          (first
            | (go_at_call 23; with_reducible refine (MA.out _ o q ?_).mono ?_; (exact (And.left (And.right (by with_reducible assumption)))); rintro e w6 ⟨rfl, hb6⟩)
            | (go_at_call 37; with_reducible refine (MB.out _ o q ?_).mono ?_; (exact (And.left (And.right (by with_reducible assumption)))); rintro e w6 ⟨rfl, hb6⟩)
            | (go_at_call 39; with_reducible refine (OR.out _ o q ?_).mono ?_; (exact (And.left (And.right (by with_reducible assumption)))); rintro e w6 ⟨v6, rfl, hr6, hb6⟩; obtain ⟨A6, cc6, rfl, hcc6, hC6⟩ := Kd.R_reads hr6)
            | (go_at_call 38; with_reducible refine (IN.out _ _ _ _ _ hC6 hcc6 ?_ ?_).mono ?_; (exact (And.left (And.right (And.right (by with_reducible assumption))))); (exact (And.right (And.right (And.right (by with_reducible assumption))))); rintro e w7 ⟨rfl, hb7⟩))
        rename_i hH
        have HBS9 := Lib.hid (bs_of hH.2.1)
        clear hH hQ h8 HK
        go_wp2_with fail
        exact ⟨⟨k + 1, N, by omega, by go_num, HGN.out, HBS9.out⟩, by simp [intOf]; omega⟩
      · have hy' : ¬ y0 = 1 := hy
        clear LA LB FA FB hy
        have HGN := Lib.hid (use_good m L need busy HG.out)
        generalize (useN m L need busy).2 = N at UA UB HGN
        generalize (useN m L need busy).1.1 = ra at UA UB
        generalize (useN m L need busy).1.2 = rb at UA UB
        go_wp2_with fail
        refine (UA.out _ _ _ _ HAS1.out).mono ?_
        rintro e w4 ⟨rfl, has4⟩
        have d1 : w4.cell? ⟨q, 1, none⟩ = some (.int .u64 (need : Int)) := blk_cell ((as_blk has4).trans (congrArg some HO.out.symm)) 1
        have d2 : w4.cell? ⟨q, 2, none⟩ = some (.int .u64 (busy : Int)) := blk_cell ((as_blk has4).trans (congrArg some HO.out.symm)) 2
        have HAS4 := Lib.hid has4
        clear has4 c0 c1 c2 HAS1
        go_wp2_with fail
        refine (UB.out _ _ _ _ HAS4.out).mono ?_
        rintro e w5 ⟨rfl, has5⟩
        have HAS5 := Lib.hid has5
        clear has5 HAS4 d1 d2 UA UB
        go_wp2_with fail
        obtain ⟨A8, c8, hQ0⟩ := qs_start HAS5.out
        have h8 : w5.cell? ⟨g + 1, 0, none⟩ = some (.slice A8 N.length c8) := hQ0.1
        have hQ : w5.cell? ⟨g + 1, 0, none⟩ = some (.slice A8 N.length c8) ∧ AS w g q o m N N w5 ∧ Kd.C KI w5 A8 N.length N ∧ N.length ≤ c8 := hQ0
        have HK : Hid (∀ v v', (v.cell? ⟨g + 1, 0, none⟩ = some (.slice A8 N.length c8) ∧ AS w g q o m N N v ∧ Kd.C KI v A8 N.length N ∧ N.length ≤ c8) → Below v.heap.size v v' → (v'.cell? ⟨g + 1, 0, none⟩ = some (.slice A8 N.length c8) ∧ AS w g q o m N N v' ∧ Kd.C KI v' A8 N.length N ∧ N.length ≤ c8)) := Lib.hid (fun v v' h hb => qs_below hb h)
        have hNl : N.length ≤ 100000 := by have := good_len N HGN.out; omega
        have MA := Lib.hid (fun u o q (h : AS w g q o m N N u) => as_mask (by omega) h)
        have MB := Lib.hid (fun u o q (h : AS w g q o m N N u) => as_rmask h)
        have OR := Lib.hid (fun u o q (h : AS w g q o m N N u) => as_order (by omega) h)
        have IN := Lib.hid (fun A A' c c' u h hc h' hc' => ints_c A A' c c' N u h hc h' hc' hNl)
        generalize ((ofN N : Nat) : Int) = mk at MA MB
        clear hQ0
        go_region_held3 (fun v => v.cell? ⟨g + 1, 0, none⟩ = some (.slice A8 N.length c8) ∧ AS w g q o m N N v ∧ Kd.C KI v A8 N.length N ∧ N.length ≤ c8)
          (first | (with_reducible assumption) | (refine HK.out w5 _ ?_ (Below.drew (Below.refl _ _)); with_reducible assumption) | (apply HK.out <;> with_reducible assumption))
          (first
            | (go_at_call 23; with_reducible refine (MA.out _ o q ?_).mono ?_; (exact (And.left (And.right (by with_reducible assumption)))); rintro e w6 ⟨rfl, hb6⟩)
            | (go_at_call 37; with_reducible refine (MB.out _ o q ?_).mono ?_; (exact (And.left (And.right (by with_reducible assumption)))); rintro e w6 ⟨rfl, hb6⟩)
            | (go_at_call 39; with_reducible refine (OR.out _ o q ?_).mono ?_; (exact (And.left (And.right (by with_reducible assumption)))); rintro e w6 ⟨v6, rfl, hr6, hb6⟩; obtain ⟨A6, cc6, rfl, hcc6, hC6⟩ := Kd.R_reads hr6)
            | (go_at_call 38; with_reducible refine (IN.out _ _ _ _ _ hC6 hcc6 ?_ ?_).mono ?_; (exact (And.left (And.right (And.right (by with_reducible assumption))))); (exact (And.right (And.right (And.right (by with_reducible assumption))))); rintro e w7 ⟨rfl, hb7⟩))
        rename_i hH
        have HBS9 := Lib.hid (bs_of hH.2.1)
        clear hH hQ h8 HK
        go_wp2_with fail
        exact ⟨⟨k + 1, N, by omega, by go_num, HGN.out, HBS9.out⟩, by simp [intOf]; omega⟩
    · have hlt' : ¬ (k : Int) < (l.length : Int) := by omega
      go_wp2_with fail
      refine (LV.out _).mono ?_
      rintro e w' ⟨rfl, hb3⟩
      go_wp2_with fail
      go_ret
      exact ⟨rfl, bl_to (bs_bel HBS.out) hb3 (by omega)⟩
end Go.Proofs.Ytoobbolaoldacaa.HotW
