/-
  RequestChecks: walked by hand over its callees' contracts.
-/
import Derived.Test.YtajpnohhahffbaaRequestPure
import Derived.Test.YtajpnohhahffbaaY
import Derived.Lib.Hide
import Derived.Deep.RegionHeld3
namespace Go.Proofs.Ytajpnohhahffbaa.RequestWalk
open Go.RowKit Go.Proofs.Ytajpnohhahffbaa Go.Proofs.Ytajpnohhahffbaa.Request Go.Proofs.Ytajpnohhahffbaa.RequestPure Go.Proofs.YtajpnohhahffbaaW.PrintWords Go.Proofs.YtajpnohhahffbaaW.PrintLast Go.Proofs.YtajpnohhahffbaaW.PrintMore
theorem keep {g0 g1 g2 : Nat} {s b c d e k0 o0 l0 k1 o1 l1 : Int} {A0 A1 : Option Addr} {n0 c0 n1 c1 : Nat} {w v v' : World} (hb : Below v.heap.size v v') (h : (v.cell? ⟨g0, 0, none⟩ = some (.int .i64 s) ∧ v.cell? ⟨g0, 1, none⟩ = some (.int .i64 b) ∧ v.cell? ⟨g0, 2, none⟩ = some (.int .i64 c) ∧ v.cell? ⟨g0, 3, none⟩ = some (.int .i64 d) ∧ v.cell? ⟨g0, 4, none⟩ = some (.int .i64 e) ∧ v.cell? ⟨g1, 0, none⟩ = some (.int .i64 k0) ∧ v.cell? ⟨g1, 1, none⟩ = some (.int .i64 o0) ∧ v.cell? ⟨g1, 2, none⟩ = some (.int .i64 l0) ∧ v.cell? ⟨g1, 3, none⟩ = some (.slice A0 n0 c0) ∧ v.cell? ⟨g2, 0, none⟩ = some (.int .i64 k1) ∧ v.cell? ⟨g2, 1, none⟩ = some (.int .i64 o1) ∧ v.cell? ⟨g2, 2, none⟩ = some (.int .i64 l1) ∧ v.cell? ⟨g2, 3, none⟩ = some (.slice A1 n1 c1)) ∧ (v.heap[g0]? = some (.cells #[.int .i64 s, .int .i64 b, .int .i64 c, .int .i64 d, .int .i64 e] 44 (0, 0)) ∧ v.heap[g1]? = some (.cells #[.int .i64 k0, .int .i64 o0, .int .i64 l0, .slice A0 n0 c0] 47 (0, 0)) ∧ v.heap[g2]? = some (.cells #[.int .i64 k1, .int .i64 o1, .int .i64 l1, .slice A1 n1 c1] 47 (0, 0))) ∧ Below w.heap.size w v) : (v'.cell? ⟨g0, 0, none⟩ = some (.int .i64 s) ∧ v'.cell? ⟨g0, 1, none⟩ = some (.int .i64 b) ∧ v'.cell? ⟨g0, 2, none⟩ = some (.int .i64 c) ∧ v'.cell? ⟨g0, 3, none⟩ = some (.int .i64 d) ∧ v'.cell? ⟨g0, 4, none⟩ = some (.int .i64 e) ∧ v'.cell? ⟨g1, 0, none⟩ = some (.int .i64 k0) ∧ v'.cell? ⟨g1, 1, none⟩ = some (.int .i64 o0) ∧ v'.cell? ⟨g1, 2, none⟩ = some (.int .i64 l0) ∧ v'.cell? ⟨g1, 3, none⟩ = some (.slice A0 n0 c0) ∧ v'.cell? ⟨g2, 0, none⟩ = some (.int .i64 k1) ∧ v'.cell? ⟨g2, 1, none⟩ = some (.int .i64 o1) ∧ v'.cell? ⟨g2, 2, none⟩ = some (.int .i64 l1) ∧ v'.cell? ⟨g2, 3, none⟩ = some (.slice A1 n1 c1)) ∧ (v'.heap[g0]? = some (.cells #[.int .i64 s, .int .i64 b, .int .i64 c, .int .i64 d, .int .i64 e] 44 (0, 0)) ∧ v'.heap[g1]? = some (.cells #[.int .i64 k0, .int .i64 o0, .int .i64 l0, .slice A0 n0 c0] 47 (0, 0)) ∧ v'.heap[g2]? = some (.cells #[.int .i64 k1, .int .i64 o1, .int .i64 l1, .slice A1 n1 c1] 47 (0, 0))) ∧ Below w.heap.size w v' :=
  ⟨⟨blk_cell (keep_at_all h.2.1.1 hb) 0, blk_cell (keep_at_all h.2.1.1 hb) 1, blk_cell (keep_at_all h.2.1.1 hb) 2, blk_cell (keep_at_all h.2.1.1 hb) 3, blk_cell (keep_at_all h.2.1.1 hb) 4, blk_cell (keep_at_all h.2.1.2.1 hb) 0, blk_cell (keep_at_all h.2.1.2.1 hb) 1, blk_cell (keep_at_all h.2.1.2.1 hb) 2, blk_cell (keep_at_all h.2.1.2.1 hb) 3, blk_cell (keep_at_all h.2.1.2.2 hb) 0, blk_cell (keep_at_all h.2.1.2.2 hb) 1, blk_cell (keep_at_all h.2.1.2.2 hb) 2, blk_cell (keep_at_all h.2.1.2.2 hb) 3⟩, ⟨(keep_at_all h.2.1.1 hb), (keep_at_all h.2.1.2.1 hb), (keep_at_all h.2.1.2.2 hb)⟩, bl_then h.2.2 hb⟩
set_option maxRecDepth 20000 in
set_option maxHeartbeats 4000000 in
theorem checks (s b c d e k0 o0 l0 k1 o1 l1 r : Int) (A0 A1 : Option Addr) (c0 c1 n0 n1 : Nat) (g sm : Bool) (nm : ByteArray) (w : World)
    (hn0 : Hid (n0 ≤ 300)) (hn1 : Hid (n1 ≤ 300))
    (D1 : Hid (∀ w, Calls Try.prog 32 #[.agg #[.int .i64 s, .int .i64 b, .int .i64 c, .int .i64 d, .int .i64 e]] w fun e w' => e = .returned (.bool g) ∧ Below w.heap.size w w'))
    (D2 : Hid (∀ w, Calls Try.prog 52 #[.agg #[.int .i64 s, .int .i64 b, .int .i64 c, .int .i64 d, .int .i64 e]] w fun e w' => e = .returned (.bool g) ∧ Below w.heap.size w w'))
    (D3 : Hid (∀ v, Below w.heap.size w v → Calls Try.prog 33 #[.agg #[.int .i64 s, .int .i64 b, .int .i64 c, .int .i64 d, .int .i64 e], .agg #[.int .i64 k0, .int .i64 o0, .int .i64 l0, .slice A0 n0 c0]] v fun e w' => e = .returned (.int .i64 r) ∧ Below v.heap.size v w'))
    (D4 : Hid (∀ v, Below w.heap.size w v → Calls Try.prog 53 #[.agg #[.int .i64 s, .int .i64 b, .int .i64 c, .int .i64 d, .int .i64 e], .agg #[.int .i64 k0, .int .i64 o0, .int .i64 l0, .slice A0 n0 c0]] v fun e w' => e = .returned (.int .i64 r) ∧ Below v.heap.size v w'))
    (D5 : Hid (∀ v, Below w.heap.size w v → Calls Try.prog 54 #[.agg #[.int .i64 k0, .int .i64 o0, .int .i64 l0, .slice A0 n0 c0], .agg #[.int .i64 k1, .int .i64 o1, .int .i64 l1, .slice A1 n1 c1]] v fun e w' => e = .returned (.bool sm) ∧ Below v.heap.size v w'))
    (D6 : Hid (∀ v, Below w.heap.size w v → Calls Try.prog 55 #[.agg #[.int .i64 k0, .int .i64 o0, .int .i64 l0, .slice A0 n0 c0], .agg #[.int .i64 k1, .int .i64 o1, .int .i64 l1, .slice A1 n1 c1]] v fun e w' => e = .returned (.bool sm) ∧ Below v.heap.size v w'))
    (D7 : Hid (∀ v, Below w.heap.size w v → Calls Try.prog 54 #[.agg #[.int .i64 k0, .int .i64 o0, .int .i64 l0, .slice A0 n0 c0], .agg #[.int .i64 k0, .int .i64 o0, .int .i64 l0, .slice A0 n0 c0]] v fun e w' => e = .returned (.bool true) ∧ Below v.heap.size v w'))
    (D8 : Hid (∀ w, Calls Try.prog 56 #[.int .i64 k0] w fun e w' => e = .returned (.string nm) ∧ Below w.heap.size w w'))
    (D9 : Hid (∀ w, Calls Try.prog 57 #[.int .i64 k0] w fun e w' => e = .returned (.string nm) ∧ Below w.heap.size w w'))
    (D10 : Hid (∀ w, Calls Try.prog 34 #[] w fun e w' => e = .returned (.bool true) ∧ Below w.heap.size w w')) :
    Calls Try.prog 12 #[.agg #[.int .i64 s, .int .i64 b, .int .i64 c, .int .i64 d, .int .i64 e], .agg #[.int .i64 k0, .int .i64 o0, .int .i64 l0, .slice A0 n0 c0], .agg #[.int .i64 k1, .int .i64 o1, .int .i64 l1, .slice A1 n1 c1]] w fun e w' => e = .returned (.bool true) ∧ Below w.heap.size w w' := by
  have hu44 := Try.underlying44
  have hu47 := Try.underlying47
  have hu23 := Try.underlying23
  have h0 : ¬ (300 : Int) < (n0 : Int) := by have := hn0.out; omega
  have h1 : ¬ (300 : Int) < (n1 : Int) := by have := hn1.out; omega
  go_enter Try.func12, Try.ntmps12
  go_wp2_with fail
  obtain ⟨w0, hw0⟩ : ∃ w0, ((w.alloc (.cells #[.int .i64 s, .int .i64 b, .int .i64 c, .int .i64 d, .int .i64 e] 44)).alloc (.cells #[.int .i64 k0, .int .i64 o0, .int .i64 l0, .slice A0 n0 c0] 47)).alloc (.cells #[.int .i64 k1, .int .i64 o1, .int .i64 l1, .slice A1 n1 c1] 47) = w0 := ⟨_, rfl⟩
  have p0 : w0.heap[w.heap.size]? = some (.cells #[.int .i64 s, .int .i64 b, .int .i64 c, .int .i64 d, .int .i64 e] 44 (0, 0)) := by rw [← hw0]; exact old_at (old_at (new_at _ _) _) _
  have p1 : w0.heap[w.heap.size + 1]? = some (.cells #[.int .i64 k0, .int .i64 o0, .int .i64 l0, .slice A0 n0 c0] 47 (0, 0)) := by rw [← hw0]; exact old_at (new_at1 _ _ _) _
  have p2 : w0.heap[w.heap.size + 1 + 1]? = some (.cells #[.int .i64 k1, .int .i64 o1, .int .i64 l1, .slice A1 n1 c1] 47 (0, 0)) := by rw [← hw0]; exact new_at2 _ _ _ _
  have pb : Below w.heap.size w w0 := by rw [← hw0]; exact bl_all (bl_all (bl_all (Below.refl _ _) _) _) _
  rw [hw0]
  clear hw0
  have hS0 : (w0.cell? ⟨w.heap.size, 0, none⟩ = some (.int .i64 s) ∧ w0.cell? ⟨w.heap.size, 1, none⟩ = some (.int .i64 b) ∧ w0.cell? ⟨w.heap.size, 2, none⟩ = some (.int .i64 c) ∧ w0.cell? ⟨w.heap.size, 3, none⟩ = some (.int .i64 d) ∧ w0.cell? ⟨w.heap.size, 4, none⟩ = some (.int .i64 e) ∧ w0.cell? ⟨w.heap.size + 1, 0, none⟩ = some (.int .i64 k0) ∧ w0.cell? ⟨w.heap.size + 1, 1, none⟩ = some (.int .i64 o0) ∧ w0.cell? ⟨w.heap.size + 1, 2, none⟩ = some (.int .i64 l0) ∧ w0.cell? ⟨w.heap.size + 1, 3, none⟩ = some (.slice A0 n0 c0) ∧ w0.cell? ⟨w.heap.size + 1 + 1, 0, none⟩ = some (.int .i64 k1) ∧ w0.cell? ⟨w.heap.size + 1 + 1, 1, none⟩ = some (.int .i64 o1) ∧ w0.cell? ⟨w.heap.size + 1 + 1, 2, none⟩ = some (.int .i64 l1) ∧ w0.cell? ⟨w.heap.size + 1 + 1, 3, none⟩ = some (.slice A1 n1 c1)) ∧ (w0.heap[w.heap.size]? = some (.cells #[.int .i64 s, .int .i64 b, .int .i64 c, .int .i64 d, .int .i64 e] 44 (0, 0)) ∧ w0.heap[w.heap.size + 1]? = some (.cells #[.int .i64 k0, .int .i64 o0, .int .i64 l0, .slice A0 n0 c0] 47 (0, 0)) ∧ w0.heap[w.heap.size + 1 + 1]? = some (.cells #[.int .i64 k1, .int .i64 o1, .int .i64 l1, .slice A1 n1 c1] 47 (0, 0))) ∧ Below w.heap.size w w0 := ⟨⟨blk_cell p0 0, blk_cell p0 1, blk_cell p0 2, blk_cell p0 3, blk_cell p0 4, blk_cell p1 0, blk_cell p1 1, blk_cell p1 2, blk_cell p1 3, blk_cell p2 0, blk_cell p2 1, blk_cell p2 2, blk_cell p2 3⟩, ⟨p0, p1, p2⟩, pb⟩
  clear p0 p1 p2 pb
  go_region_held3 (fun v => (v.cell? ⟨w.heap.size, 0, none⟩ = some (.int .i64 s) ∧ v.cell? ⟨w.heap.size, 1, none⟩ = some (.int .i64 b) ∧ v.cell? ⟨w.heap.size, 2, none⟩ = some (.int .i64 c) ∧ v.cell? ⟨w.heap.size, 3, none⟩ = some (.int .i64 d) ∧ v.cell? ⟨w.heap.size, 4, none⟩ = some (.int .i64 e) ∧ v.cell? ⟨w.heap.size + 1, 0, none⟩ = some (.int .i64 k0) ∧ v.cell? ⟨w.heap.size + 1, 1, none⟩ = some (.int .i64 o0) ∧ v.cell? ⟨w.heap.size + 1, 2, none⟩ = some (.int .i64 l0) ∧ v.cell? ⟨w.heap.size + 1, 3, none⟩ = some (.slice A0 n0 c0) ∧ v.cell? ⟨w.heap.size + 1 + 1, 0, none⟩ = some (.int .i64 k1) ∧ v.cell? ⟨w.heap.size + 1 + 1, 1, none⟩ = some (.int .i64 o1) ∧ v.cell? ⟨w.heap.size + 1 + 1, 2, none⟩ = some (.int .i64 l1) ∧ v.cell? ⟨w.heap.size + 1 + 1, 3, none⟩ = some (.slice A1 n1 c1)) ∧ (v.heap[w.heap.size]? = some (.cells #[.int .i64 s, .int .i64 b, .int .i64 c, .int .i64 d, .int .i64 e] 44 (0, 0)) ∧ v.heap[w.heap.size + 1]? = some (.cells #[.int .i64 k0, .int .i64 o0, .int .i64 l0, .slice A0 n0 c0] 47 (0, 0)) ∧ v.heap[w.heap.size + 1 + 1]? = some (.cells #[.int .i64 k1, .int .i64 o1, .int .i64 l1, .slice A1 n1 c1] 47 (0, 0))) ∧ Below w.heap.size w v) (first | (with_reducible assumption) | (refine keep (v := w0) (Below.drew (Below.refl _ _)) ?_; with_reducible assumption) | (apply keep <;> with_reducible assumption))
    (first
      | (go_at_call 32; with_reducible refine (D1.out _).mono ?_; rintro e w3 ⟨rfl, hb3⟩)
      | (go_at_call 52; with_reducible refine (D2.out _).mono ?_; rintro e w3 ⟨rfl, hb3⟩)
      | (go_at_call 33; with_reducible refine (D3.out _ ?_).mono ?_; (exact (And.right (And.right (by with_reducible assumption)))); rintro e w3 ⟨rfl, hb3⟩)
      | (go_at_call 53; with_reducible refine (D4.out _ ?_).mono ?_; (exact (And.right (And.right (by with_reducible assumption)))); rintro e w3 ⟨rfl, hb3⟩)
      | (go_at_call 54; with_reducible refine (D5.out _ ?_).mono ?_; (exact (And.right (And.right (by with_reducible assumption)))); rintro e w3 ⟨rfl, hb3⟩)
      | (go_at_call 54; with_reducible refine (D7.out _ ?_).mono ?_; (exact (And.right (And.right (by with_reducible assumption)))); rintro e w3 ⟨rfl, hb3⟩)
      | (go_at_call 55; with_reducible refine (D6.out _ ?_).mono ?_; (exact (And.right (And.right (by with_reducible assumption)))); rintro e w3 ⟨rfl, hb3⟩)
      | (go_at_call 56; with_reducible refine (D8.out _).mono ?_; rintro e w3 ⟨rfl, hb3⟩)
      | (go_at_call 57; with_reducible refine (D9.out _).mono ?_; rintro e w3 ⟨rfl, hb3⟩)
      | (go_at_call 34; with_reducible refine (D10.out _).mono ?_; rintro e w3 ⟨rfl, hb3⟩))
  rename_i hH
  have HB := Lib.hid hH.2.2
  clear hH hS0
  go_wp2_with fail
  go_ret
  exact ⟨rfl, HB.out⟩
set_option maxHeartbeats 1000000 in
theorem small_walk (s b c d e k0 o0 l0 k1 o1 l1 : Int) (A0 A1 : Option Addr) (c0 c1 n0 n1 : Nat) (w : World) (hn : Hid (¬ (n0 ≤ 300 ∧ n1 ≤ 300)))
    (D10 : Hid (∀ w, Calls Try.prog 34 #[] w fun e w' => e = .returned (.bool true) ∧ Below w.heap.size w w')) :
    Calls Try.prog 12 #[.agg #[.int .i64 s, .int .i64 b, .int .i64 c, .int .i64 d, .int .i64 e], .agg #[.int .i64 k0, .int .i64 o0, .int .i64 l0, .slice A0 n0 c0], .agg #[.int .i64 k1, .int .i64 o1, .int .i64 l1, .slice A1 n1 c1]] w fun e w' => e = .returned (.bool true) ∧ Below w.heap.size w w' := by
  have hu44 := Try.underlying44
  have hu47 := Try.underlying47
  by_cases h0 : (300 : Int) < (n0 : Int)
  · go_enter Try.func12, Try.ntmps12
    go_wp2_with fail
    refine (D10.out _).mono ?_
    rintro e w1 ⟨rfl, hb⟩
    go_wp2_with fail
    go_ret
    exact ⟨rfl, bl_then (bl_all (bl_all (bl_all (Below.refl _ _) _) _) _) hb⟩
  · have h1 : (300 : Int) < (n1 : Int) := by have := hn.out; omega
    go_enter Try.func12, Try.ntmps12
    go_wp2_with fail
    refine (D10.out _).mono ?_
    rintro e w1 ⟨rfl, hb⟩
    go_wp2_with fail
    go_ret
    exact ⟨rfl, bl_then (bl_all (bl_all (bl_all (Below.refl _ _) _) _) _) hb⟩
theorem drawn {e : Ending} {v : Value} {w w' : World} (h : e = .returned v ∧ Drawn0 w w') : e = .returned v ∧ Below w.heap.size w w' := by
  obtain ⟨h, nd, rfl⟩ := h
  exact ⟨h, bl_drew (Below.refl _ _) nd⟩
theorem holds (s b c d e k0 o0 l0 k1 o1 l1 : Int) (A0 A1 : Option Addr) (c0 c1 : Nat) (x y : List Int) (w : World) (hr0 : Kd.C (Kd.int .u8) w A0 x.length x) (hc0 : x.length ≤ c0) (hr1 : Kd.C (Kd.int .u8) w A1 y.length y) (hc1 : y.length ≤ c1) :
    Calls Try.prog 12 #[.agg #[.int .i64 s, .int .i64 b, .int .i64 c, .int .i64 d, .int .i64 e], .agg #[.int .i64 k0, .int .i64 o0, .int .i64 l0, .slice A0 x.length c0], .agg #[.int .i64 k1, .int .i64 o1, .int .i64 l1, .slice A1 y.length c1]] w fun e w' => e = .returned (.bool true) ∧ Below w.heap.size w w' := by
  by_cases hn : x.length ≤ 300 ∧ y.length ≤ 300
  · obtain ⟨nm, e1, e2⟩ := name_p k0
    refine checks s b c d e k0 o0 l0 k1 o1 l1 (checkN s k0 o0 l0 x.length) A0 A1 c0 c1 x.length y.length (reqGood s b c d e) (sameN k0 o0 l0 x k1 o1 l1 y) nm w hn.1 hn.2 (fun w => request_Good.calls _ _ _ _ _ _ w rfl) (fun w => twainref28_Good.calls _ _ _ _ _ _ w (ref_good28 _ _ _ _ _))
      (fun v hb => request_Check.calls s b c d e k0 o0 l0 A0 c0 x _ v (Kd.C_below hr0 hb) hc0 (check_p _ _ _ _ _ _ _ _ _)) (fun v hb => twainref28_Check.calls s b c d e k0 o0 l0 A0 c0 x _ v (Kd.C_below hr0 hb) hc0 (ref_check_p _ _ _ _ _ _ _ _ _))
      (fun v hb => request_Same.calls k0 o0 l0 A0 c0 x k1 o1 l1 A1 c1 y _ v (Kd.C_below hr0 hb) hc0 (Kd.C_below hr1 hb) hc1 (same_p _ _ _ _ _ _ _ _)) (fun v hb => twainref28_Same.calls k0 o0 l0 A0 c0 x k1 o1 l1 A1 c1 y _ v (Kd.C_below hr0 hb) hc0 (Kd.C_below hr1 hb) hc1 (ref_same_p _ _ _ _ _ _ _ _))
      (fun v hb => request_Same.calls k0 o0 l0 A0 c0 x k0 o0 l0 A0 c0 x true v (Kd.C_below hr0 hb) hc0 (Kd.C_below hr0 hb) hc0 (by rw [same_p, same_self])) (fun w => (request_Name.calls k0 _ w e1).mono fun _ _ h => drawn h) (fun w => twainref28_Name.calls k0 _ w e2) (fun w => twainlaw28_lives.calls true w lives_p)
  · exact small_walk s b c d e k0 o0 l0 k1 o1 l1 A0 A1 c0 c1 x.length y.length w hn (fun w => twainlaw28_lives.calls true w lives_p)
end Go.Proofs.Ytajpnohhahffbaa.RequestWalk
