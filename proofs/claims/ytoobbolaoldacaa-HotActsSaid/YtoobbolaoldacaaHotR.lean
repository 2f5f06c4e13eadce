/-
  The reference's hot set: its state, and what its methods leave of it.
-/
import Derived.Test.YtoobbolaoldacaaHotQ
import Derived.Test.YtoobbolaoldacaaHotK
namespace Go.Proofs.Ytoobbolaoldacaa.HotW
open Go.RowKit Go.Proofs.Ytoobbolaoldacaa Go.Proofs.Ytoobbolaoldacaa.Hot Go.Proofs.Ytoobbolaoldacaa.HotBP Go.Proofs.Ytoobbolaoldacaa.HotP Go.Proofs.Ytoobbolaoldacaa.BitsPlain Go.Proofs.Ytoobbolaoldacaa.RowOwn Go.Proofs.Ytoobbolaoldacaa.CloneI Go.Proofs.YtoobbolaoldacaaW.PrintWords Go.Proofs.YtoobbolaoldacaaW.PrintMore
set_option linter.unusedVariables false
theorem both_loop (b : Nat) (hb : b < 2 ^ 64) : ∀ (d i k x : Nat), i + d = 64 → d + 66 < k → x < 2 ^ 64 →
    ∃ y : Nat, twainref01_Both.l0 k (x : Int) (b : Int) (i : Int) = some (y : Int) ∧ y < 2 ^ 64 ∧ ∀ j : Nat, y.testBit j = (x.testBit j || (decide (j < 64) && decide (i ≤ j) && b.testBit j)) := by
  intro d
  induction d with
  | zero =>
    intro i k x hi hk hx
    obtain ⟨k, rfl⟩ : ∃ j, k = j + 1 := ⟨k - 1, by omega⟩
    simp only [twainref01_Both.l0]
    rw [if_neg (by omega)]
    refine ⟨x, rfl, hx, fun j => ?_⟩
    by_cases h : j < 64
    · simp [show ¬ i ≤ j by omega]
    · simp [h]
  | succ d ih =>
    intro i k x hi hk hx
    obtain ⟨k, rfl⟩ : ∃ j, k = j + 1 := ⟨k - 1, by omega⟩
    simp only [twainref01_Both.l0]
    rw [if_pos (by omega), ref_has_p b i k (by omega) hb, Option.bind_some, HotBP.wrap_small _ (by omega) (by omega), show (i : Int) + 1 = ((i + 1 : Nat) : Int) by omega]
    have hin : inN (i : Int) = true := by simp [inN]; omega
    unfold hasN
    rw [hin, Bool.true_and, Int.toNat_natCast]
    by_cases hn : b.testBit i = true
    · rw [if_pos hn, ref_with_p x _ k (by omega) hx, Option.bind_some]
      obtain ⟨y, e, hy, ht⟩ := ih (i + 1) k _ (by omega) (by omega) (withN_lt x i hx)
      refine ⟨y, e, hy, fun j => ?_⟩
      rw [ht, withN_testBit, hin]
      by_cases hj : i = j
      · subst hj; simp [hn, show i < 64 by omega]
      · simp [show ¬ (i : Int) = j by omega, show (i + 1 ≤ j) = (i ≤ j) by simp only [eq_iff_iff]; omega]
    · rw [if_neg hn]
      obtain ⟨y, e, hy, ht⟩ := ih (i + 1) k x (by omega) (by omega) hx
      refine ⟨y, e, hy, fun j => ?_⟩
      rw [ht]
      by_cases hj : i = j
      · subst hj; simp [hn]
      · simp [show (i + 1 ≤ j) = (i ≤ j) by simp only [eq_iff_iff]; omega]
theorem both_p (a b : Nat) (ha : a < 2 ^ 64) (hb : b < 2 ^ 64) (k : Nat) (hk : 140 ≤ k) : twainref01_Both.f k (a : Int) (b : Int) = some ((a ||| b : Nat) : Int) := by
  unfold twainref01_Both.f
  obtain ⟨y, e, hy, ht⟩ := both_loop b hb 64 0 k a (by omega) (by omega) ha
  refine e.trans ?_
  congr 2
  apply Nat.eq_of_testBit_eq
  intro j
  rw [ht, Nat.testBit_or]
  by_cases h : j < 64
  · simp [h]
  · simp [h, high b j hb h]
def RHotAt (w : World) (g base : Nat) (m : Int) (L : List Int) (S : Nat → Prop) : Prop :=
  ∃ v ok, w.heap[g]? = some (.cells #[v, .int .i64 m] 85 (0, 0)) ∧ Row KI 3 w base ok v L ∧ S g ∧ base ≤ g ∧ (∀ k, ok k → S k ∧ k ≠ g) ∧ (∀ k, S k → base ≤ k ∧ k < w.heap.size) ∧ L.length ≤ 100000
theorem rhot_lt {w : World} {g base : Nat} {m : Int} {L : List Int} {S : Nat → Prop} (h : RHotAt w g base m L S) : base ≤ g ∧ g < w.heap.size ∧ L.length ≤ 100000 := by
  obtain ⟨v, ok, hh, hr, hS, hb, hd, hl, hn⟩ := h
  exact ⟨hb, lt_at hh, hn⟩
theorem rhot_only {w w1 : World} {g base : Nat} {m : Int} {L : List Int} {S T : Nat → Prop} (h : RHotAt w g base m L S) (ho : OnlyS T w w1) (hT : ∀ k, S k → ¬ T k) : RHotAt w1 g base m L S := by
  obtain ⟨v, ok, hh, hr, hS, hb, hd, hl, hn⟩ := h
  exact ⟨v, ok, blk_only hh ho (hT g hS), row_only hr ho (fun k hk => hT k (hd k hk).1), hS, hb, hd, fun k hk => ⟨(hl k hk).1, Nat.lt_of_lt_of_le (hl k hk).2 ho.size⟩, hn⟩
theorem rhot_below {w w1 : World} {g base : Nat} {m : Int} {L : List Int} {S : Nat → Prop} (h : RHotAt w g base m L S) (hb : Below w.heap.size w w1) : RHotAt w1 g base m L S := rhot_only (T := fun _ => False) h (OnlyS.of_below hb) (fun _ _ hf => hf)
theorem rhot_cells {w : World} {g base : Nat} {m : Int} {L : List Int} {S : Nat → Prop} (h : RHotAt w g base m L S) :
    w.cell? ⟨g, 1, none⟩ = some (.int .i64 m) ∧ ∃ A c, w.cell? ⟨g, 0, none⟩ = some (.slice A L.length c) ∧ L.length ≤ c ∧ Kd.C KI w A L.length L ∧ w.frozen? ⟨g, 0, none⟩ = false := by
  obtain ⟨v, ok, hh, hr, hS, hb, hd, hl, hn⟩ := h
  obtain ⟨A, c, rfl, hc, hC⟩ := row_reads hr
  exact ⟨blk_cell hh 1, A, c, blk_cell hh 0, hc, hC, blk_frozen hh 0⟩
/-- a new row is stored -/
theorem rhot_put {w w1 : World} {g base : Nat} {m : Int} {L M : List Int} {S : Nat → Prop} {v : Value} (h : RHotAt w g base m L S) (hbl : Below w.heap.size w w1) (hr : Kd.R KI 3 w1 w.heap.size (fun _ => True) v M) (sM : M.length ≤ 100000) :
    ∃ S', RHotAt (w1.setCell ⟨g, 0, none⟩ v) g base m M S' ∧ (∀ k, S' k → S k ∨ w.heap.size ≤ k) ∧ OnlyS S w (w1.setCell ⟨g, 0, none⟩ v) := by
  obtain ⟨v0, ok, hh, hr0, hS, hb, hd, hl, hn⟩ := h
  have o3 : OnlyS S w (w1.setCell ⟨g, 0, none⟩ v) := (OnlyS.of_below hbl).set _ _ (.inl hS)
  have hgW : w1.heap[g]? = some (.cells #[v0, .int .i64 m] 85 (0, 0)) := keep_at_all hh hbl
  have hset := set_at hgW 0 v
  have hrow := made_R hr (show base ≤ w.heap.size by have := lt_at hh; omega)
  have hrb := row_bound (row_types hrow (g := g) (t := 85) hgW (by decide))
  have hrF : Row KI 3 (w1.setCell ⟨g, 0, none⟩ v) base (fun k => (w.heap.size ≤ k ∧ k ≠ g) ∧ base ≤ k ∧ k < w1.heap.size) v M := row_step hrb (fun k hk _ => Below.heap_setCell w1 ⟨g, 0, none⟩ v k hk.1.2)
  have hsz : (w1.setCell ⟨g, 0, none⟩ v).heap.size = w1.heap.size := by simp [World.setCell]
  refine ⟨fun k => k = g ∨ ((w.heap.size ≤ k ∧ k ≠ g) ∧ base ≤ k ∧ k < w1.heap.size), ⟨v, _, hset, hrF, .inl rfl, hb, fun k hk => ⟨.inr hk, hk.1.2⟩, fun k hk => ?_, sM⟩, fun k hk => ?_, o3⟩
  · rw [hsz]
    rcases hk with rfl | hk
    · exact ⟨hb, lt_at hgW⟩
    · exact hk.2
  · rcases hk with rfl | hk
    · exact .inl hS
    · exact .inr hk.1.1
theorem new_rhot (w : World) (g : Nat) (m : Int) (h : w.heap[g]? = some (.cells #[.slice none 0 0, .int .i64 m] 85 (0, 0))) : RHotAt w g g m [] (fun k => k = g) :=
  ⟨_, fun _ => False, h, row_nil _ _ _ _ _, rfl, Nat.le_refl _, fun _ hk => hk.elim, fun k hk => by subst hk; exact ⟨Nat.le_refl _, lt_at h⟩, by simp⟩
theorem RNew_yes (p : Int) (w : World) (h1 : 1 ≤ p) (h2 : p ≤ 16) :
    Calls Try.prog 33 #[.int .i64 p] w fun e w' => e = .returned (.tuple #[.pointer (some ⟨w.heap.size, 0, none⟩), .int .i64 0]) ∧ w.alloc (.cells #[.slice none 0 0, .int .i64 p] 85) = w' := by
  have c1 : ¬ p < 1 := by omega
  have c2 : ¬ 16 < p := by omega
  go_enter Try.func33, Try.ntmps33
  go_wp2
  go_ret2
  exact ⟨rfl, rfl⟩
theorem RNew_no (p : Int) (w : World) (h : p < 1 ∨ 16 < p) :
    Calls Try.prog 33 #[.int .i64 p] w fun e w' => e = .returned (.tuple #[.pointer none, .int .i64 2]) ∧ w = w' := by
  by_cases c1 : p < 1
  · go_enter Try.func33, Try.ntmps33
    go_wp2
    go_ret2
    exact ⟨rfl, rfl⟩
  · have c2 : 16 < p := by omega
    go_enter Try.func33, Try.ntmps33
    go_wp2
    go_ret2
    exact ⟨rfl, rfl⟩
theorem rhas_c (x : Nat) (e : Int) (hx : x < 2 ^ 64) (w : World) : Calls Try.prog 72 #[.int .u64 (x : Int), .int .i64 e] w fun e' w' => e' = .returned (.bool (hasN x e)) ∧ Drawn0 w w' :=
  twainref01_Has.calls 100 _ _ _ w (ref_has_p x e 100 (by omega) hx)
theorem RMask_c (g base : Nat) (m : Int) (L : List Int) (S : Nat → Prop) (w : World) (h : RHotAt w g base m L S) :
    Calls Try.prog 37 #[.pointer (some ⟨g, 0, none⟩)] w fun e w' => e = .returned (.int .u64 ((ofN L : Nat) : Int)) ∧ Drawn0 w w' := by
  have hlen := (rhot_lt h).2.2
  obtain ⟨c1, A, c, c0, hc, hC, _⟩ := rhot_cells h
  have O := Lib.hid (twainref01_Of.calls 200000 A c L _ w hC hc (ref_of_p L (by omega) 200000 (by omega)))
  clear hC h
  go_enter Try.func37, Try.ntmps37
  go_wp2_with fail
  refine O.out.mono ?_
  rintro e w' ⟨rfl, n, rfl⟩
  go_wp2_with fail
  go_ret
  exact ⟨rfl, n, rfl⟩
theorem RLoad_c (g base : Nat) (m : Int) (L : List Int) (S : Nat → Prop) (x : Nat) (w : World) (hx : x < 2 ^ 64) (h : RHotAt w g base m L S) :
    Calls Try.prog 35 #[.pointer (some ⟨g, 0, none⟩), .int .u64 (x : Int)] w fun e w' => e = .returned (.tuple #[]) ∧ ∃ S', RHotAt w' g base m (intsN (list x)) S' ∧ (∀ k, S' k → S k ∨ w.heap.size ≤ k) ∧ OnlyS S w w' := by
  have D := Lib.hid (rlist_c x hx w)
  have HH := Lib.hid h
  have hgl := rhot_lt h
  have hlen := list_len x
  clear hx h
  generalize intsN (list x) = M at D hlen ⊢
  go_enter Try.func35, Try.ntmps35
  go_wp2_with fail
  refine D.out.mono ?_
  rintro e w1 ⟨v1, rfl, hr1, hb1⟩
  have hh1 := rhot_below HH.out hb1
  obtain ⟨_, A0, c0, hz, _, _, hf⟩ := rhot_cells hh1
  have HR1 := Lib.hid hr1
  have HB1 := Lib.hid hb1
  obtain ⟨A1, c1, rfl⟩ := Kd.R_slice hr1
  clear hr1 hb1 hh1
  go_wp2_with fail
  go_end0
  exact ⟨rfl, rhot_put HH.out HB1.out HR1.out (by omega)⟩
set_option maxHeartbeats 1000000 in
theorem RFits_c (g base : Nat) (m : Int) (L : List Int) (S : Nat → Prop) (need busy : Nat) (w : World) (hn : need < 2 ^ 64) (hb : busy < 2 ^ 64) (h : RHotAt w g base m L S) :
    Calls Try.prog 34 #[.pointer (some ⟨g, 0, none⟩), .int .u64 (need : Int), .int .u64 (busy : Int)] w fun e w' => e = .returned (.bool (rfitsN m L need busy)) ∧ Below w.heap.size w w' := by
  have D := Lib.hid (rlist_c need hn w)
  have HH := Lib.hid h
  have hgl := rhot_lt h
  have hlen := list_len need
  have H1 := Lib.hid (fun e => rhas_c busy e hb)
  have H2 := Lib.hid (fun e => rhas_c need e hn)
  unfold rfitsN countR
  clear hn hb h
  generalize intsN (list need) = M at D hlen ⊢
  go_enter Try.func34, Try.ntmps34
  go_wp2_with fail
  refine D.out.mono ?_
  rintro e w1 ⟨v1, rfl, hr1, hb1⟩
  obtain ⟨A1, c1, rfl⟩ := Kd.R_slice hr1
  have hh1 := rhot_below HH.out hb1
  obtain ⟨x1, A0, c0, x0, hc0, hC, hf⟩ := rhot_cells hh1
  have HB1 := Lib.hid hb1
  have HC := Lib.hid hC
  have HH1 := Lib.hid hh1
  clear hr1 hb1 hh1 hC HH D
  go_wp2_with fail
  go_loopw [7, 18] (fun nv iv wr => ∃ (k n : Nat), k ≤ L.length ∧ nv = .int .i64 ((M.length + ((L.take k).filter (fun e => hasN busy e && !hasN need e)).length : Nat) : Int) ∧ iv = .int .i64 k ∧ wr = w1.drewN n)
    (fun nv iv _ => L.length - (intOf iv).toNat)
  case atStart => exact ⟨0, 0, Nat.zero_le _, by simp, rfl, rfl⟩
  case round =>
    obtain ⟨k, n, hk, rfl, rfl, rfl⟩ := hrel
    by_cases hlt : k < L.length
    · have hlt' : (k : Int) < (L.length : Int) := by omega
      obtain ⟨ad, rfl, hcell⟩ := at_KI HC.out k hlt
      have hnext : (L.take (k + 1)).filter (fun e => hasN busy e && !hasN need e) = (L.take k).filter (fun e => hasN busy e && !hasN need e) ++ (if hasN busy L[k] && !hasN need L[k] then [L[k]] else []) := by
        rw [List.take_add_one, List.getElem?_eq_getElem hlt, List.filter_append]
        show _ ++ List.filter _ [L[k]] = _
        congr 1
        cases hq : (hasN busy L[k] && !hasN need L[k]) <;> simp [List.filter, hq]
      have hle : ((L.take k).filter (fun e => hasN busy e && !hasN need e)).length ≤ k := by
        have h1 := List.length_filter_le (fun e => hasN busy e && !hasN need e) (L.take k)
        rw [List.length_take] at h1
        omega
      have hnl := congrArg List.length hnext
      rw [List.length_append] at hnl
      have HNL : Hid (((L.take (k + 1)).filter (fun e => hasN busy e && !hasN need e)).length = ((L.take k).filter (fun e => hasN busy e && !hasN need e)).length + (if hasN busy L[k] && !hasN need L[k] then [L[k]] else []).length) := Lib.hid hnl
      have HK1 := Lib.hid (H1.out L[k])
      have HK2 := Lib.hid (H2.out L[k])
      clear hnext hnl
      generalize ((L.take k).filter (fun e => hasN busy e && !hasN need e)).length = z at hle HNL ⊢
      generalize L[k] = y at HNL HK1 HK2 hcell
      generalize hasN busy y = b1 at HNL HK1
      generalize hasN need y = b2 at HNL HK2
      cases b1 with
      | false =>
        go_wp2_with fail
        refine (HK1.out _).mono ?_
        rintro e w' ⟨rfl, n2, rfl⟩
        go_wp2_with fail
        go_roundw
        case rel => exact ⟨k + 1, n + n2, by omega, by rw [HNL.out]; simp, by go_num, rfl⟩
        case measure => simp [intOf]; omega
      | true =>
        cases b2 with
        | true =>
          go_wp2_with fail
          refine (HK1.out _).mono ?_
          rintro e w' ⟨rfl, n2, rfl⟩
          go_wp2_with fail
          refine (HK2.out _).mono ?_
          rintro e w' ⟨rfl, n3, rfl⟩
          go_wp2_with fail
          go_roundw
          case rel => exact ⟨k + 1, n + n2 + n3, by omega, by rw [HNL.out]; simp, by go_num, rfl⟩
          case measure => simp [intOf]; omega
        | false =>
          go_wp2_with fail
          refine (HK1.out _).mono ?_
          rintro e w' ⟨rfl, n2, rfl⟩
          go_wp2_with fail
          refine (HK2.out _).mono ?_
          rintro e w' ⟨rfl, n3, rfl⟩
          go_wp2_with fail
          go_roundw
          case rel => exact ⟨k + 1, n + n2 + n3, by omega, by rw [HNL.out]; simp; go_num, by go_num, rfl⟩
          case measure => simp [intOf]; omega
    · have hlt' : ¬ (k : Int) < (L.length : Int) := by omega
      rw [List.take_of_length_le (by omega)]
      have hle : (L.filter (fun e => hasN busy e && !hasN need e)).length ≤ L.length := List.length_filter_le _ _
      generalize hz : (L.filter (fun e => hasN busy e && !hasN need e)).length = z at hle ⊢
      have y1 : (w1.drewN n).cell? ⟨g, 1, none⟩ = some (.int .i64 m) := x1
      go_wp2_with fail
      go_ret
      subst hz
      exact ⟨rfl, bl_drew HB1.out n⟩
set_option maxRecDepth 10000 in
theorem over_c (g base : Nat) (m : Int) (L : List Int) (S : Nat → Prop) (need : Nat) (w : World) (hn : need < 2 ^ 64) (h : RHotAt w g base m L S) :
    Calls Try.prog 78 #[.pointer (some ⟨g, 0, none⟩), .int .u64 (need : Int)] w fun e w' => e = .returned (.bool (overN m need L)) ∧ Below w.heap.size w w' := by
  obtain ⟨c1, _⟩ := rhot_cells h
  have hO : ofN L < 2 ^ 64 := ofN_lt L 0 (by omega)
  have MK := Lib.hid (fun v (h : RHotAt v g base m L S) => (RMask_c g base m L S v h).mono (fun e w' (hx : e = .returned (.int .u64 ((ofN L : Nat) : Int)) ∧ Drawn0 v w') => (⟨hx.1, bl_drawn hx.2⟩ : e = .returned (.int .u64 ((ofN L : Nat) : Int)) ∧ Below v.heap.size v w')))
  have hq : (ofN L ||| need) < 2 ^ 64 := Nat.or_lt_two_pow hO hn
  have BO := Lib.hid (fun v => (twainref01_Both.calls 200 _ _ _ v (both_p (ofN L) need hO hn 200 (by omega))).mono (fun e w' (hx : e = .returned (.int .u64 ((ofN L ||| need : Nat) : Int)) ∧ Drawn0 v w') => (⟨hx.1, bl_drawn hx.2⟩ : e = .returned (.int .u64 ((ofN L ||| need : Nat) : Int)) ∧ Below v.heap.size v w')))
  have LI := Lib.hid (fun v => rlist_c (ofN L ||| need) hq v)
  have hl := list_len (ofN L ||| need)
  have hov : overN m need L = decide (m < ((intsN (list (ofN L ||| need))).length : Int)) := by
    unfold overN
    have : (intsN (list (ofN L ||| need))).length = pop 64 (ofN L ||| need) := by unfold intsN; rw [List.length_map, list_length]
    rw [this]
  have hS0 : w.cell? ⟨g, 1, none⟩ = some (.int .i64 m) ∧ RHotAt w g base m L S ∧ Below w.heap.size w w := ⟨c1, h, Below.refl _ _⟩
  have hkeep : ∀ v v', Below v.heap.size v v' → (v.cell? ⟨g, 1, none⟩ = some (.int .i64 m) ∧ RHotAt v g base m L S ∧ Below w.heap.size w v) → (v'.cell? ⟨g, 1, none⟩ = some (.int .i64 m) ∧ RHotAt v' g base m L S ∧ Below w.heap.size w v') := fun v v' hb h => ⟨(rhot_cells (rhot_below h.2.1 hb)).1, rhot_below h.2.1 hb, h.2.2.trans (hb.mono h.2.2.size)⟩
  rw [hov]
  clear h hO hq hn c1 hov
  generalize intsN (list (ofN L ||| need)) = M at LI hl ⊢
  generalize ofN L ||| need = q at BO LI
  generalize ofN L = q3 at MK BO
  go_enter Try.func78, Try.ntmps78
  go_wp2_with fail
  go_region_held3 (fun v => v.cell? ⟨g, 1, none⟩ = some (.int .i64 m) ∧ RHotAt v g base m L S ∧ Below w.heap.size w v)
    (first | (with_reducible assumption) | (refine hkeep w _ (Below.drew (Below.refl _ _)) ?_; with_reducible assumption) | (apply hkeep <;> with_reducible assumption))
    (first
      | (go_at_call 37; with_reducible refine (MK.out _ ?_).mono ?_; (exact (And.left (And.right (by with_reducible assumption)))); rintro e w3 ⟨rfl, hb3⟩)
      | (go_at_call 108; with_reducible refine (BO.out _).mono ?_; rintro e w3 ⟨rfl, hb3⟩)
      | (go_at_call 24; with_reducible refine (LI.out _).mono ?_; rintro e w3 ⟨v3, rfl, hr3, hb3⟩; obtain ⟨A3, c3, rfl⟩ := Kd.R_slice hr3))
  rename_i hH
  have HB := Lib.hid hH.2.2
  clear hH hS0
  go_wp2_with fail
  go_ret
  exact ⟨rfl, HB.out⟩
end Go.Proofs.Ytoobbolaoldacaa.HotW
