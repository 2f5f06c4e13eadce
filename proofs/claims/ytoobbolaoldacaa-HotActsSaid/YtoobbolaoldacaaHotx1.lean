/- The functions that the statements of this group reach, each as a plain Lean function, and a proof that the Go function comes to what it says (written by a program of this session over the kit's print). -/
import Derived.Test.YtoobbolaoldacaaHotx0
namespace Go.Proofs.Ytoobbolaoldacaa.Hot
open Go.RowKit Go.Proofs.YtoobbolaoldacaaW.PrintWords Go.Proofs.YtoobbolaoldacaaW.PrintLast Go.Proofs.YtoobbolaoldacaaW.PrintMore
attribute [local go_sem] max2_int min2_int max_two min_two max_three min_three max_four min_four   -- for this text's walks alone
set_option linter.unusedVariables false
set_option linter.unusedSimpArgs false

/-! ### bits_Count: function 66, by hand -/
open Go.Proofs.Ytoobbolaoldacaa.BitsPlain
def bits_Count.f (a0 : Int) : Option Int := if 0 ≤ a0 ∧ a0 < 18446744073709551616 then some ((pop 64 a0.toNat : Nat) : Int) else none
theorem stage_int (m d y : Nat) (s : Nat) (hd : d = 2 ^ s) (hy : y < 18446744073709551616) (hm : m + m < 18446744073709551616) : IntKind.u64.wrap (bits .and .u64 (y : Int) (m : Int) + bits .and .u64 ((y : Int) / (d : Int)) (m : Int)) = ((stage m s y : Nat) : Int) := by
  have e : (y : Int) / (d : Int) = ((y / d : Nat) : Int) := by rw [Int.natCast_ediv]
  have h1 : y / d < 18446744073709551616 := Nat.lt_of_le_of_lt (Nat.div_le_self _ _) hy
  rw [e, u64_and_nat y m hy (by omega), u64_and_nat _ m h1 (by omega), IntKind.wrap_u64]
  have h2 := stage_le m s y
  unfold stage at h2 ⊢
  rw [hd]
  rw [hd] at h1
  have h3 := Nat.and_le_right (n := y) (m := m)
  have h4 := Nat.and_le_right (n := y / 2 ^ s) (m := m)
  omega
set_option maxHeartbeats 1000000 in
theorem count_walk (x : Nat) (w : World) (hx : x < 18446744073709551616) : Calls Try.prog 66 #[.int .u64 (x : Int)] w fun e w' => e = .returned (.int .i64 ((c64 x : Nat) : Int)) ∧ Below w.heap.size w w' := by
  have i0 : ∀ w, (Instr.index 165 (.agg #[.int .u64 6148914691236517205, .int .u64 3689348814741910323, .int .u64 1085102592571150095, .int .u64 71777214294589695, .int .u64 281470681808895, .int .u64 4294967295]) (.int .i64 0)).run Try.prog w = .ok (.int .u64 6148914691236517205) w := fun _ => by kernel_rfl
  have i1 : ∀ w, (Instr.index 165 (.agg #[.int .u64 6148914691236517205, .int .u64 3689348814741910323, .int .u64 1085102592571150095, .int .u64 71777214294589695, .int .u64 281470681808895, .int .u64 4294967295]) (.int .i64 1)).run Try.prog w = .ok (.int .u64 3689348814741910323) w := fun _ => by kernel_rfl
  have i2 : ∀ w, (Instr.index 165 (.agg #[.int .u64 6148914691236517205, .int .u64 3689348814741910323, .int .u64 1085102592571150095, .int .u64 71777214294589695, .int .u64 281470681808895, .int .u64 4294967295]) (.int .i64 2)).run Try.prog w = .ok (.int .u64 1085102592571150095) w := fun _ => by kernel_rfl
  have i3 : ∀ w, (Instr.index 165 (.agg #[.int .u64 6148914691236517205, .int .u64 3689348814741910323, .int .u64 1085102592571150095, .int .u64 71777214294589695, .int .u64 281470681808895, .int .u64 4294967295]) (.int .i64 3)).run Try.prog w = .ok (.int .u64 71777214294589695) w := fun _ => by kernel_rfl
  have i4 : ∀ w, (Instr.index 165 (.agg #[.int .u64 6148914691236517205, .int .u64 3689348814741910323, .int .u64 1085102592571150095, .int .u64 71777214294589695, .int .u64 281470681808895, .int .u64 4294967295]) (.int .i64 4)).run Try.prog w = .ok (.int .u64 281470681808895) w := fun _ => by kernel_rfl
  have i5 : ∀ w, (Instr.index 165 (.agg #[.int .u64 6148914691236517205, .int .u64 3689348814741910323, .int .u64 1085102592571150095, .int .u64 71777214294589695, .int .u64 281470681808895, .int .u64 4294967295]) (.int .i64 5)).run Try.prog w = .ok (.int .u64 4294967295) w := fun _ => by kernel_rfl
  go_enter Try.func66, Try.ntmps66
  go_wp2_with fail
  refine wp_loop_rounds 7 ?_
  rw [rounds_succ]
  go_wp2_with fail
  obtain ⟨y0, hy0⟩ : ∃ y : Nat, y = stage 6148914691236517205 1 x := ⟨_, rfl⟩
  have e0 := stage_int 6148914691236517205 2 x 1 (by decide) hx (by decide)
  rw [← hy0] at e0
  have b0 : y0 < 18446744073709551616 := by have := stage_le 6148914691236517205 1 x; omega
  change IntKind.u64.wrap (bits .and .u64 (x : Int) 6148914691236517205 + bits .and .u64 ((x : Int) / 2) 6148914691236517205) = (y0 : Int) at e0
  rw [e0]
  clear e0
  have H0 := Lib.hid hy0
  clear hy0
  rw [rounds_succ]
  go_wp2_with fail
  obtain ⟨y1, hy1⟩ : ∃ y : Nat, y = stage 3689348814741910323 2 y0 := ⟨_, rfl⟩
  have e1 := stage_int 3689348814741910323 4 y0 2 (by decide) b0 (by decide)
  rw [← hy1] at e1
  have b1 : y1 < 18446744073709551616 := by have := stage_le 3689348814741910323 2 y0; omega
  change IntKind.u64.wrap (bits .and .u64 (y0 : Int) 3689348814741910323 + bits .and .u64 ((y0 : Int) / 4) 3689348814741910323) = (y1 : Int) at e1
  rw [e1]
  clear e1
  have H1 := Lib.hid hy1
  clear hy1
  rw [rounds_succ]
  go_wp2_with fail
  obtain ⟨y2, hy2⟩ : ∃ y : Nat, y = stage 1085102592571150095 4 y1 := ⟨_, rfl⟩
  have e2 := stage_int 1085102592571150095 16 y1 4 (by decide) b1 (by decide)
  rw [← hy2] at e2
  have b2 : y2 < 18446744073709551616 := by have := stage_le 1085102592571150095 4 y1; omega
  change IntKind.u64.wrap (bits .and .u64 (y1 : Int) 1085102592571150095 + bits .and .u64 ((y1 : Int) / 16) 1085102592571150095) = (y2 : Int) at e2
  rw [e2]
  clear e2
  have H2 := Lib.hid hy2
  clear hy2
  rw [rounds_succ]
  go_wp2_with fail
  obtain ⟨y3, hy3⟩ : ∃ y : Nat, y = stage 71777214294589695 8 y2 := ⟨_, rfl⟩
  have e3 := stage_int 71777214294589695 256 y2 8 (by decide) b2 (by decide)
  rw [← hy3] at e3
  have b3 : y3 < 18446744073709551616 := by have := stage_le 71777214294589695 8 y2; omega
  change IntKind.u64.wrap (bits .and .u64 (y2 : Int) 71777214294589695 + bits .and .u64 ((y2 : Int) / 256) 71777214294589695) = (y3 : Int) at e3
  rw [e3]
  clear e3
  have H3 := Lib.hid hy3
  clear hy3
  rw [rounds_succ]
  go_wp2_with fail
  obtain ⟨y4, hy4⟩ : ∃ y : Nat, y = stage 281470681808895 16 y3 := ⟨_, rfl⟩
  have e4 := stage_int 281470681808895 65536 y3 16 (by decide) b3 (by decide)
  rw [← hy4] at e4
  have b4 : y4 < 18446744073709551616 := by have := stage_le 281470681808895 16 y3; omega
  change IntKind.u64.wrap (bits .and .u64 (y3 : Int) 281470681808895 + bits .and .u64 ((y3 : Int) / 65536) 281470681808895) = (y4 : Int) at e4
  rw [e4]
  clear e4
  have H4 := Lib.hid hy4
  clear hy4
  rw [rounds_succ]
  go_wp2_with fail
  obtain ⟨y5, hy5⟩ : ∃ y : Nat, y = stage 4294967295 32 y4 := ⟨_, rfl⟩
  have e5 := stage_int 4294967295 4294967296 y4 32 (by decide) b4 (by decide)
  rw [← hy5] at e5
  have b5 : y5 < 18446744073709551616 := by have := stage_le 4294967295 32 y4; omega
  change IntKind.u64.wrap (bits .and .u64 (y4 : Int) 4294967295 + bits .and .u64 ((y4 : Int) / 4294967296) 4294967295) = (y5 : Int) at e5
  rw [e5]
  clear e5
  have H5 := Lib.hid hy5
  clear hy5
  have b6 : y5 ≤ 8589934590 := by have := stage_le 4294967295 32 y4; rw [← H5.out] at this; omega
  rw [rounds_succ]
  go_wp2_with fail
  go_ret
  refine ⟨?_, (Below.refl _ _).alloc (Nat.le_refl _) _⟩
  have hc : c64 x = y5 := by rw [H5.out, H4.out, H3.out, H2.out, H1.out, H0.out]; rfl
  rw [hc]
  rfl
theorem bits_Count.calls (a0 : Int) (r : Int) (w : World) (h : bits_Count.f a0 = some r) :
    Calls Try.prog 66 #[.int .u64 a0] w fun e w' => e = .returned (.int .i64 r) ∧ Below w.heap.size w w' := by
  unfold bits_Count.f at h
  split at h
  · rename_i hr
    obtain rfl := Option.some.inj h
    clear h
    obtain ⟨x, rfl⟩ := Int.eq_ofNat_of_zero_le hr.1
    rw [Int.toNat_natCast, ← c64_eq x (by omega)]
    exact count_walk x w (by omega)
  · cases h

/-! ### bits_List: function 65, by hand -/
open Go.Proofs.Ytoobbolaoldacaa.BitsPlain
theorem low_arg (x : Nat) (hx : x < 18446744073709551616) (h0 : x ≠ 0) : IntKind.u64.wrap (bits .and .u64 (x : Int) (IntKind.u64.wrap (-(x : Int))) - 1) = (((x &&& (2 ^ 64 - x)) - 1 : Nat) : Int) ∧ (x &&& (2 ^ 64 - x)) - 1 < 18446744073709551616 := by
  have e1 : IntKind.u64.wrap (-(x : Int)) = ((2 ^ 64 - x : Nat) : Int) := by rw [IntKind.wrap_u64]; omega
  have h1 : 2 ^ 64 - x < 18446744073709551616 := by omega
  have h2 : x &&& (2 ^ 64 - x) ≤ x := Nat.and_le_left
  have h3 : x &&& (2 ^ 64 - x) ≠ 0 := by
    obtain ⟨k, m, hk⟩ := odd_part x h0
    have := low_bit 64 k m (by rw [← hk]; omega)
    rw [← hk] at this
    rw [this]
    exact Nat.ne_of_gt (Nat.two_pow_pos k)
  rw [e1, u64_and_nat _ _ hx h1, IntKind.wrap_u64]
  omega
theorem low_calls (x : Nat) (w : World) (hx : x < 18446744073709551616) (h0 : x ≠ 0) : Calls Try.prog 121 #[.int .u64 (x : Int)] w fun e w' => e = .returned (.tuple #[.int .i64 ((pop 64 ((x &&& (2 ^ 64 - x)) - 1) : Nat) : Int), .bool true]) ∧ Below w.heap.size w w' := by
  have hz : ((x : Int) == 0) = false := by simp; omega
  obtain ⟨he, hlt⟩ := low_arg x hx h0
  have HE := Lib.hid he
  clear he
  generalize (x &&& (2 ^ 64 - x)) - 1 = m at *
  have hc := bits_Count.calls (m : Int) ((pop 64 m : Nat) : Int) w (by unfold bits_Count.f; rw [if_pos (by omega)]; simp)
  have HC := Lib.hid hc
  clear hc
  go_enter Try.func121, Try.ntmps121
  go_wp2_with fail
  rw [HE.out]
  refine (HC.out).mono ?_
  rintro e w' ⟨rfl, hb⟩
  go_wp2_with fail
  go_ret2
  exact ⟨rfl, hb⟩
def boxNum (w : World) (b : Nat) : Nat := match w.cell? ⟨b, 0, none⟩ with
  | some v => (Go.RowKit.intOf v).toNat
  | none => 0
theorem boxNum_eq {w : World} {b x : Nat} {k : IntKind} (h : w.cell? ⟨b, 0, none⟩ = some (.int k (x : Int))) : boxNum w b = x := by
  unfold boxNum; rw [h]; simp [intOf]
section
open Go.Shelf
attribute [local go_sem] Oper.semAt_some
theorem u64_step (x : Nat) (hx : x < 18446744073709551616) (h0 : x ≠ 0) : bits .and .u64 (x : Int) ((x : Int) - 1) = ((x &&& (x - 1) : Nat) : Int) := by
  rw [show (x : Int) - 1 = ((x - 1 : Nat) : Int) by omega, u64_and_nat _ _ hx (by omega)]
set_option maxRecDepth 100000 in
set_option maxHeartbeats 2000000 in
theorem each_box (n bs x : Nat) (hx : x < 18446744073709551616) (w : World) (hbs : w.heap[bs]? = some (.cells #[.int .u64 (x : Int)] 42 (0, 0))) :
    SeqBox Fence.wide n Try.prog 120 #[.pointer (some ⟨bs, 0, none⟩)] (fun k : Nat => #[.int .i64 (k : Int)]) bs (BitsPlain.list x) w := by
  intro l J W hW hJ hset hY h0
  have hbW : W.heap[bs]? = some (.cells #[.int .u64 (x : Int)] 42 (0, 0)) := (hW.block bs (Array.getElem?_eq_some_iff.1 hbs).1).trans hbs
  refine callsIn_of_wp Try.func120 rfl trivial ?_ rfl
  simp only [Try.ntmps120, List.size_toArray, List.length_cons, List.length_nil, Nat.reduceAdd, Nat.reduceSub, Array.replicate_succ, Array.replicate_zero, List.push_toArray, List.append_toArray, List.nil_append, List.cons_append]
  gi_wp2_with fail
  gi_loopw [3] (fun p wr => ∃ (pre : List Nat) (s : Nat), BitsPlain.list x = pre ++ BitsPlain.list s ∧ s < 18446744073709551616 ∧ wr.heap[bs]? = some (.cells #[.int .u64 (s : Int)] 42 (0, 0)) ∧ J pre wr)
    (fun _ wr => boxNum wr bs)
  case atStart => exact ⟨[], x, rfl, hx, hbW, h0⟩
  case round =>
    obtain ⟨pre, s, hl, hs, hb, hj⟩ := hrel
    have hc : wr.cell? ⟨bs, 0, none⟩ = some (.int .u64 (s : Int)) := blk_cell hb 0
    have hf : wr.frozen? ⟨bs, 0, none⟩ = false := blk_frozen hb 0
    have HB := Lib.hid hb
    have HL := Lib.hid hl
    clear hb hl
    by_cases hz : s = 0
    · subst hz
      gi_wp2_with fail
      go_end0
      refine ⟨⟨_, rfl⟩, ?_⟩
      have e := HL.out
      rw [list_zero, List.append_nil] at e
      rw [e]
      exact hj
    · have hz' : ((s : Int) != 0) = true := by simp; omega
      obtain ⟨hst, hlt⟩ := list_step s hz hs
      generalize hk : pop 64 ((s &&& (2 ^ 64 - s)) - 1) = k at hst
      have hu := u64_step s hs hz
      generalize s &&& (s - 1) = s2 at hst hlt hu
      have hlow : ∀ W0 : World, Calls Try.prog 121 #[.int .u64 (s : Int)] W0 fun e w' => e = .returned (.tuple #[.int .i64 (k : Int), .bool true]) ∧ Below W0.heap.size W0 w' := fun W0 => by
        have := low_calls s W0 hs hz
        rwa [hk] at this
      have HLOW := Lib.hid hlow
      have HST := Lib.hid hst
      have HLT := Lib.hid hlt
      have HU := Lib.hid hu
      have hbl : bs < wr.heap.size := lt_at HB.out
      clear hlow hst hlt hk hu
      gi_wp2_with fail
      refine ⟨trivial, fun h => absurd h (by decide), ?_⟩
      refine (callsIn_wide.2 (HLOW.out _)).mono ?_
      rintro e w1 ⟨rfl, hb1⟩
      have hc1 : w1.cell? ⟨bs, 0, none⟩ = some (.int .u64 (s : Int)) := (hb1.cell (p := ⟨bs, 0, none⟩) hbl).trans hc
      have hf1 : w1.frozen? ⟨bs, 0, none⟩ = false := (hb1.frozen (p := ⟨bs, 0, none⟩) hbl).trans hf
      have hbk1 := keep_at_all HB.out hb1
      have HBK1 := Lib.hid hbk1
      have hj1 : J pre (w1.setCell ⟨bs, 0, none⟩ (.int .u64 (s2 : Int))) := hset pre w1 _ (hJ pre wr w1 none hj (grown_of_below hb1 none) (fun r e => by cases e))
      obtain ⟨fn, tmps, assign, body, hy, hR⟩ := hY pre k _ (by rw [HL.out, HST.out]; exact ⟨BitsPlain.list s2, by simp⟩) hj1
      have HR := Lib.hid hR
      clear hbk1 hR hb1
      gi_wp2_with fail
      rw [HU.out, hy, Oper.uponIn_round]
      refine ⟨fun h => absurd h (by decide), (HR.out).mono ?_⟩
      rintro e w3 ⟨rfl, hj3, hb3⟩
      have hb4 := hb3.trans (set_at HBK1.out 0 (.int .u64 (s2 : Int)))
      have HB4 := Lib.hid hb4
      clear hy hb3 hb4
      gi_wp2_with fail
      go_roundw
      case rel => exact ⟨pre ++ [k], s2, by rw [HL.out, HST.out]; simp, by have := HLT.out; omega, HB4.out, hj3⟩
      case measure =>
        rw [boxNum_eq hc, boxNum_eq (blk_cell HB4.out 0)]
        exact HLT.out
theorem list_info : (Try.prog.info? 3).map (fun i => (i.zero, i.size, i.bytes)) = some (some (.int .i64 0), 1, 8) := by kernel_rfl
theorem each_calls (x : Int) (w : World) : Calls Try.prog 98 #[.int .u64 x] w fun e w' => e = .returned (.func (.func 120) #[] #[.pointer (some ⟨w.heap.size, 0, none⟩)]) ∧ w.alloc (.cells #[.int .u64 x] 42) = w' := by
  have hmf : ∀ (fn : Fn) (first cap : Array Value) (w : World), (Instr.makeFunc fn first cap).run Try.prog w = .ok (.func fn first cap) w := fun _ _ _ _ => rfl
  go_enter Try.func98, Try.ntmps98
  go_wp2
  go_ret
  exact ⟨rfl, rfl⟩
def numsN (l : List Nat) : List Value := l.map (fun n : Nat => Value.int .i64 (n : Int))
set_option maxRecDepth 100000 in
set_option maxHeartbeats 2000000 in
theorem list_walk (x : Nat) (hx : x < 18446744073709551616) (w : World) :
    Calls Try.prog 65 #[.int .u64 (x : Int)] w fun e w' => ∃ v, e = .returned v ∧ w'.ownsRow w.heap.size 3 1 v (BitsPlain.list x).length (numsN (BitsPlain.list x)) ∧ Below w.heap.size w w' := by
  obtain ⟨i0, hi, hz0, hz1, hz2⟩ := info_parts list_info
  refine (callsIn_wide (n := 3)).1 ?_
  refine callsIn_of_wp_marks Try.func65 rfl trivial ?_ rfl
  simp only [Try.ntmps65, List.size_toArray, List.length_cons, List.length_nil, Nat.reduceAdd, Nat.reduceSub, Array.replicate_succ, Array.replicate_zero, List.push_toArray, List.append_toArray, List.nil_append, List.cons_append]
  gi_wp2_with fail
  refine ⟨trivial, (callsIn_wide.2 (each_calls (x : Int) _)).mono ?_⟩
  rintro e w' ⟨rfl, rfl⟩
  gi_wp2_with fail
  have bO := Boxed.new w 54 (.slice none 0 0)
  have bN := Boxed.new (w.alloc (.cells #[.slice none 0 0] 54)) 42 (.int .u64 (x : Int))
  rw [World.size_alloc] at bN
  have hB0 : Below w.heap.size w ((w.alloc (.cells #[.slice none 0 0] 54)).alloc (.cells #[.int .u64 (x : Int)] 42)) := ((Below.refl _ w).alloc (Nat.le_refl _) _).alloc (by simp) _
  obtain ⟨W0, hW0⟩ : ∃ W0, (w.alloc (.cells #[.slice none 0 0] 54)).alloc (.cells #[.int .u64 (x : Int)] 42) = W0 := ⟨_, rfl⟩
  have hsz : W0.heap.size = w.heap.size + 2 := by rw [← hW0]; simp
  have bO0 : Boxed W0 w.heap.size 54 (.slice none 0 0) := by rw [← hW0]; exact bO.alloc _
  have bN0 : Boxed W0 (w.heap.size + 1) 42 (.int .u64 (x : Int)) := by rw [← hW0]; exact bN
  rw [hW0] at hB0 ⊢
  clear bO bN hW0
  refine wpIn_range_box rfl (by omega) (gf := 120) (lb := #[.pointer (some ⟨w.heap.size + 1, 0, none⟩)]) rfl trivial (enters_of Try.func120 (by kernel_rfl) rfl)
    (each_box _ (w.heap.size + 1) x hx W0 bN0) (by omega) (fun _ => rfl)
    (fun pre W => (∃ v, Boxed W w.heap.size 54 v ∧ W.ownsRow w.heap.size 3 1 v pre.length (numsN pre)) ∧ (∃ u, Boxed W (w.heap.size + 1) 42 u) ∧ Below w.heap.size w W)
    ?hI ?hset ?h0
    (fun k => { tmps := #[.int .u64 (x : Int), undef, .slice none 0 0, .pointer (some ⟨w.heap.size, 0, none⟩), .int .i64 (k : Int), .int .u64 (x : Int), .func (.func 120) #[] #[.pointer (some ⟨w.heap.size + 1, 0, none⟩)], .int .i64 (k : Int), undef, undef, undef, undef, undef], defers := [] }) ?assign ?body ?done
  case hI =>
    refine OwnFrom.and (Own.from (fun s A B row ⟨v, hv, hr⟩ hg hrow => (holdsRow_own w.heap.size w.heap.size 54 3 1 (fun pre : List Nat => pre.length) numsN (fun _ _ => True) s A B row ⟨v, hv, hr, trivial⟩ hg hrow).imp fun v ⟨a, b, _⟩ => ⟨a, b⟩) _) (OwnFrom.and ?_ (ownFrom_below (Nat.le_refl _) (by omega)))
    rintro s A B row ⟨u, hu⟩ hg hr
    refine ⟨u, hu.kept hg (fun e => ?_)⟩
    obtain ⟨_, o, ho, hc⟩ := hr _ e.symm
    have hu' : A.heap[w.heap.size + 1]? = _ := hu
    rw [hu'] at ho
    cases ho
    cases hc
  case hset =>
    rintro pre W u ⟨⟨v, hv, hr⟩, ⟨u0, hu⟩, hB⟩
    exact ⟨⟨v, (Below.heap_setCell W ⟨w.heap.size + 1, 0, none⟩ u _ (by show w.heap.size ≠ w.heap.size + 1; omega)).trans hv, hr.kept (grownBy_setCell' W (w.heap.size + 1) u) (.inr (hu.not_row (by decide) hr).symm)⟩,
      ⟨u, hu.set u⟩, hB.setCell (by show w.heap.size ≤ w.heap.size + 1; omega) u⟩
  case h0 => exact ⟨⟨_, bO0, World.ownsRow_nil _ _ _ _⟩, ⟨_, bN0⟩, hB0⟩
  case assign =>
    intro l k W K hK
    gi_wp2
    exact hK
  case body =>
    rintro l pre k W hpre ⟨⟨v, hv, hrow⟩, ⟨u0, hu⟩, hB⟩
    have hpl : pre.length < 65 := by
      have h1 := hpre.length_le
      have h2 := pop_le 64 x
      rw [← list_length] at h2
      simp at h1
      omega
    have hc := hv.cell
    have hBS := hB.size
    have HPRE := Lib.hid hpre
    have HNR := Lib.hid (hu.not_row (t := 42) (e := 3) (by decide) hrow)
    have HU := Lib.hid hu
    clear hpre hu
    gi_wp2_with (gi_at_builtin; refine wpListIn_append_own _ rfl _ _ 54 rfl w.heap.size 3 i0 (.int .i64 0) 1 8 Try.underlying54 hi hz0 hz1 hz2 rfl (by decide) _ _ _ rfl (hrow.alloc _) ⟨W.heap.size, 0, none⟩ 1 1 [.int .i64 (k : Int)] rfl rfl (cell_one_new _ _ _) (by simp [Value.oneCell']) (by unfold maxLen; omega) (by omega) (by simp; omega) ?_; intro v' w1 hown' hgrow _; obtain ⟨g', cap', rfl⟩ := ownsRow_succ hown'; obtain ⟨hv1, hv2, hr2, hk2, hb2⟩ := hv.appended (by decide) hrow (by omega) (Nat.le_refl _) hown' hgrow; have hc1 := hv1.cell; have hf1 := hv1.frozen)
    have hkeep := (HU.out.alloc (.cells #[.int .i64 (k : Int)] 3)).kept hgrow HNR.out
    refine ⟨hk2.from _, ?_, ⟨_, hv2, by simpa [numsN] using hr2⟩, ⟨u0, (Below.heap_setCell w1 ⟨w.heap.size, 0, none⟩ _ _ (by show w.heap.size + 1 ≠ w.heap.size; omega)).trans hkeep⟩, hB.trans hb2⟩
    exact ((Below.heap_setCell w1 ⟨w.heap.size, 0, none⟩ _ _ (by show w.heap.size + 1 ≠ w.heap.size; omega)).trans hkeep).trans HU.out.symm
  case done =>
    rintro D W hD ⟨⟨v, hv, hrow⟩, _, hB⟩ hK
    have hc := hv.cell
    gi_wp2
    refine ⟨by simp, .inl ⟨_, _, rfl, run_takeDeferred hK, ?_⟩⟩
    exact ⟨_, results_tmp rfl _ _ _, v, rfl, ownsRow_putObj hrow _ hK rfl, hB.trans (belowK_b (w := w) (Nat.le_refl _) W D _ _ (by omega) hK rfl rfl)⟩
end
def bits_List.f (a0 : Int) : Option (List Int) := if 0 ≤ a0 ∧ a0 < 18446744073709551616 then some ((BitsPlain.list a0.toNat).map (fun n : Nat => (n : Int))) else none
theorem bits_List.calls (a0 : Int) (r : List Int) (w : World) (h : bits_List.f a0 = some r) :
    Calls Try.prog 65 #[.int .u64 a0] w fun e w' => ∃ v0_ : Value, e = .returned (v0_) ∧ Kd.R (Kd.int .i64) 3 w' w.heap.size (fun _ => True) v0_ r ∧ Below w.heap.size w w' := by
  unfold bits_List.f at h
  split at h
  · rename_i hr
    obtain rfl := Option.some.inj h
    clear h
    obtain ⟨x, rfl⟩ := Int.eq_ofNat_of_zero_le hr.1
    rw [Int.toNat_natCast]
    refine (list_walk x (by omega) w).mono ?_
    rintro e w' ⟨v, rfl, ho, hb⟩
    refine ⟨v, rfl, Kd.R_of_own (enc := Value.int .i64) (h1 := fun _ => rfl) ?_ ?_, hb⟩
    · simpa [encs, numsN, Function.comp_def] using ho
    · intros; trivial
  · cases h

/-! ### bits_in: function 122 -/
def bits_in.f (a0 : Int) : Option (Bool) := if a0 ≥ 0 then (some (decide (a0 < 64))) else (some false)
set_option maxHeartbeats 8000000 in
set_option maxRecDepth 100000 in
theorem bits_in.calls (a0 : Int) (r : Bool) (w : World) (h : bits_in.f a0 = some r) :
    Calls Try.prog 122 #[.int .i64 a0] w fun e w' => e = .returned (.bool r) ∧ Drawn0 w w' := by
  have H : (if a0 ≥ 0 then (some (decide (a0 < 64))) else (some false)) = some r := h
  clear h
  by_cases c2 : a0 ≥ 0
  · rw [if_pos c2] at H
    have c2b0 : decide (0 ≤ a0) = true := decide_eq_true c2
    clear c2
    obtain rfl := Option.some.inj H
    go_enter Try.func122, Try.ntmps122
    go_wp2
    go_ret
    exact ⟨by first | rfl | (simp; done) | (simp [*]; done), by repeat (first | exact Drawn0.refl _ | apply Drawn0.step)⟩
  · rw [if_neg c2] at H
    have c2b0 : decide (0 ≤ a0) = false := decide_eq_false c2
    clear c2
    obtain rfl := Option.some.inj H
    go_enter Try.func122, Try.ntmps122
    go_wp2
    go_ret
    exact ⟨by first | rfl | (simp; done) | (simp [*]; done), by repeat (first | exact Drawn0.refl _ | apply Drawn0.step)⟩

/-! ### bits_One: function 99 -/
def bits_One.f (a0 : Int) : Option (Int) := (bits_in.f a0).bind fun t101 => (if t101 = true then (if 0 ≤ a0 then (some (shl .u64 1 a0)) else (none)) else (some 0))
set_option maxHeartbeats 8000000 in
set_option maxRecDepth 100000 in
theorem bits_One.calls (a0 : Int) (r : Int) (w : World) (h : bits_One.f a0 = some r) :
    Calls Try.prog 99 #[.int .i64 a0] w fun e w' => e = .returned (.int .u64 r) ∧ Drawn0 w w' := by
  have H : ((bits_in.f a0).bind fun t101 => (if t101 = true then (if 0 ≤ a0 then (some (shl .u64 1 a0)) else (none)) else (some 0))) = some r := h
  clear h
  replace H := Option.bind_eq_some_iff.mp H
  obtain ⟨t101, A20, H⟩ := H
  replace H : (if t101 = true then (if 0 ≤ a0 then (some (shl .u64 1 a0)) else (none)) else (some 0)) = some r := H
  have A2 := Aside0.mk A20
  clear A20
  by_cases c3 : t101 = true
  · subst c3
    have H1 : (if 0 ≤ a0 then (some (shl .u64 1 a0)) else (none)) = some r := by rw [if_pos rfl] at H; exact H
    clear H
    have H := H1
    clear H1
    by_cases c4 : 0 ≤ a0
    · rw [if_pos c4] at H
      have c4b0 := eq_true c4
      have c4b1 : decide (0 ≤ a0) = true := decide_eq_true c4
      clear c4
      obtain ⟨ji5, hji5⟩ : ∃ j_ : Int, (shl .u64 1 a0) = j_ := ⟨_, rfl⟩
      replace H : (some ji5) = some r := by first | (rw [hji5] at H; exact H) | (simp only [hji5] at H ⊢; exact H)
      (try rw [hji5] at A2)
      have hji5_ : (IntKind.u64.wrap (1 * 2 ^ min a0.toNat 64)) = ji5 := hji5
      have hji5z : a0 ≤ 64 → (IntKind.u64.wrap (1 * 2 ^ a0.toNat)) = ji5 := shl_small hji5
      have hji5u : (IntKind.u64.wrap (2 ^ min a0.toNat 64)) = ji5 := by have h_ := hji5_; rw [Int.one_mul] at h_; exact h_
      have hji5v : a0 ≤ 64 → (IntKind.u64.wrap (2 ^ a0.toNat)) = ji5 := fun hle_ => by have h_ := hji5z hle_; rw [Int.one_mul] at h_; exact h_
      obtain rfl := Option.some.inj H
      go_enter Try.func99, Try.ntmps99
      go_wp2_with (first | ((with_reducible refine gate_callee (f := 122) rfl ?_); refine goesL_ (some 4) rfl rfl Try.func122 (by kernel_rfl) rfl #[.int .i64 a0] rfl (by (try simp only [List.map_toArray, List.map_cons, List.map_nil]); first | done | rfl | (simp only [List.length_drop, List.length_take]; rfl)) ?_; (with_reducible refine (bits_in.calls a0 true _ A2.out).mono ?_); rintro e w' ⟨rfl, ⟨nd, rfl⟩⟩; refine ⟨_, rfl, ?_⟩))
      go_ret
      exact ⟨by first | rfl | (simp; done) | (simp only [← hji5] <;> (first | rfl | simp)) | (simp [*]; done), by repeat (first | exact Drawn0.refl _ | apply Drawn0.step)⟩
    · rw [if_neg c4] at H
      exact absurd H (by simp)
  · replace c3 := Bool.eq_false_iff.mpr c3
    subst c3
    have H1 : (some 0) = some r := by rw [if_neg (show ¬ (false = true) by decide)] at H; exact H
    clear H
    have H := H1
    clear H1
    obtain rfl := Option.some.inj H
    go_enter Try.func99, Try.ntmps99
    go_wp2_with (first | ((with_reducible refine gate_callee (f := 122) rfl ?_); refine goesL_ (some 4) rfl rfl Try.func122 (by kernel_rfl) rfl #[.int .i64 a0] rfl (by (try simp only [List.map_toArray, List.map_cons, List.map_nil]); first | done | rfl | (simp only [List.length_drop, List.length_take]; rfl)) ?_; (with_reducible refine (bits_in.calls a0 false _ A2.out).mono ?_); rintro e w' ⟨rfl, ⟨nd, rfl⟩⟩; refine ⟨_, rfl, ?_⟩))
    go_ret
    exact ⟨by first | rfl | (simp; done) | (simp [*]; done), by repeat (first | exact Drawn0.refl _ | apply Drawn0.step)⟩

/-! ### bits_Has: function 68 -/
def bits_Has.f (a0 : Int) (a1 : Int) : Option (Bool) := (bits_One.f a1).bind fun t102 => (some ((Go.bits .and .u64 a0 t102) != 0))
set_option maxHeartbeats 8000000 in
set_option maxRecDepth 100000 in
theorem bits_Has.calls (a0 : Int) (a1 : Int) (r : Bool) (w : World) (h : bits_Has.f a0 a1 = some r) :
    Calls Try.prog 68 #[.int .u64 a0, .int .i64 a1] w fun e w' => e = .returned (.bool r) ∧ Drawn0 w w' := by
  have H : ((bits_One.f a1).bind fun t102 => (some ((Go.bits .and .u64 a0 t102) != 0))) = some r := h
  clear h
  replace H := Option.bind_eq_some_iff.mp H
  obtain ⟨t102, A30, H⟩ := H
  replace H : (some ((Go.bits .and .u64 a0 t102) != 0)) = some r := H
  have A3 := Aside0.mk A30
  clear A30
  obtain rfl := Option.some.inj H
  go_enter Try.func68, Try.ntmps68
  go_wp2_with (first | ((with_reducible refine gate_callee (f := 99) rfl ?_); refine goesL_ (some 7) rfl rfl Try.func99 (by kernel_rfl) rfl #[.int .i64 a1] rfl (by (try simp only [List.map_toArray, List.map_cons, List.map_nil]); first | done | rfl | (simp only [List.length_drop, List.length_take]; rfl)) ?_; (with_reducible refine (bits_One.calls a1 t102 _ A3.out).mono ?_); rintro e w' ⟨rfl, ⟨nd, rfl⟩⟩; refine ⟨_, rfl, ?_⟩))
  go_ret
  exact ⟨by first | rfl | (simp; done) | (simp [*]; done), by repeat (first | exact Drawn0.refl _ | apply Drawn0.step)⟩

/-! ### bits_With: function 102 -/
def bits_With.f (a0 : Int) (a1 : Int) : Option (Int) := (bits_One.f a1).bind fun t103 => (some (Go.bits .or .u64 a0 t103))
set_option maxHeartbeats 8000000 in
set_option maxRecDepth 100000 in
theorem bits_With.calls (a0 : Int) (a1 : Int) (r : Int) (w : World) (h : bits_With.f a0 a1 = some r) :
    Calls Try.prog 102 #[.int .u64 a0, .int .i64 a1] w fun e w' => e = .returned (.int .u64 r) ∧ Drawn0 w w' := by
  have H : ((bits_One.f a1).bind fun t103 => (some (Go.bits .or .u64 a0 t103))) = some r := h
  clear h
  replace H := Option.bind_eq_some_iff.mp H
  obtain ⟨t103, A30, H⟩ := H
  replace H : (some (Go.bits .or .u64 a0 t103)) = some r := H
  have A3 := Aside0.mk A30
  clear A30
  obtain rfl := Option.some.inj H
  go_enter Try.func102, Try.ntmps102
  go_wp2_with (first | ((with_reducible refine gate_callee (f := 99) rfl ?_); refine goesL_ (some 7) rfl rfl Try.func99 (by kernel_rfl) rfl #[.int .i64 a1] rfl (by (try simp only [List.map_toArray, List.map_cons, List.map_nil]); first | done | rfl | (simp only [List.length_drop, List.length_take]; rfl)) ?_; (with_reducible refine (bits_One.calls a1 t103 _ A3.out).mono ?_); rintro e w' ⟨rfl, ⟨nd, rfl⟩⟩; refine ⟨_, rfl, ?_⟩))
  go_ret
  exact ⟨by first | rfl | (simp; done) | (simp [*]; done), by repeat (first | exact Drawn0.refl _ | apply Drawn0.step)⟩

/-! ### bits_Of: function 71 -/
def bits_Of.l0 : Nat → Int → List Int → Int → Int → Option (Int)
  | 0, _, _, _, _ => none
  | k + 1, x3, x6, x7, x8 => if x8 < x7 then (if 0 ≤ x8 then (if x8 < (x6.length : Int) then ((bits_With.f x3 (rd x6 x8)).bind fun t105 => (bits_Of.l0 k t105 x6 x7 (wrap64 (x8 + 1)))) else (none)) else (none)) else (some x3)
def bits_Of.f (k : Nat) (l0 : List Int) : Option (Int) := bits_Of.l0 k 0 l0 (l0.length : Int) 0
theorem bits_Of.mono_l : ∀ k, (∀ y0 y1 y2 y3, LeO (bits_Of.l0 k y0 y1 y2 y3) (bits_Of.l0 (k + 1) y0 y1 y2 y3))
  | 0 => fun _ _ _ _ r h => by simp [bits_Of.l0] at h
  | k + 1 => by
    have ih0 := bits_Of.mono_l k
    · intro y0 y1 y2 y3
      unfold bits_Of.l0
      repeat' first
      | (with_reducible exact ih0 _ _ _ _)
      | (with_reducible exact LeO.refl _)
      | (with_reducible exact LeO.none _)
      | (with_reducible refine LeO.ite ?_ ?_)
      | (with_reducible refine LeO.bind ?_ (fun _ => ?_))
      | exact ih0 _ _ _ _
      | exact LeO.none _
      | refine LeO.ite ?_ ?_
      | refine LeO.bind ?_ (fun _ => ?_)
theorem bits_Of.mono : ∀ a0 k, LeO (bits_Of.f k a0) (bits_Of.f (k + 1) a0) := by
  intro a0 k
  have ih0 := bits_Of.mono_l k
  unfold bits_Of.f
  repeat' first
      | (with_reducible exact ih0 _ _ _ _)
      | (with_reducible exact LeO.refl _)
      | (with_reducible exact LeO.none _)
      | (with_reducible refine LeO.ite ?_ ?_)
      | (with_reducible refine LeO.bind ?_ (fun _ => ?_))
      | exact ih0 _ _ _ _
      | exact LeO.none _
      | refine LeO.ite ?_ ?_
      | refine LeO.bind ?_ (fun _ => ?_)
set_option maxHeartbeats 8000000 in
set_option maxRecDepth 100000 in
theorem bits_Of.calls (k : Nat) (A0 : Option Addr) (c0 : Nat) (l0 : List Int) (r : Int) (w : World) (hr0 : Kd.C (Kd.int .i64) w A0 l0.length l0) (hc0 : l0.length ≤ c0) (h : bits_Of.f k l0 = some r) :
    Calls Try.prog 71 #[.slice A0 l0.length c0] w fun e w' => e = .returned (.int .u64 r) ∧ Drawn0 w w' := by
  have HR0 := Aside0.mk hr0
  have HC0 := Aside0.mk hc0
  clear hr0 hc0
  have H : (bits_Of.l0 k 0 l0 (l0.length : Int) 0) = some r := h
  clear h
  have H' := Aside0.mk H
  clear H
  go_enter Try.func71, Try.ntmps71
  go_wp2
  go_loopg [3, 8] k (fun kq v3 v8 w' => ∃ (x3_1 : Int) (x8_1 : Int), v3 = .int .u64 x3_1 ∧ v8 = .int .i64 x8_1 ∧ Aside0 (bits_Of.l0 kq x3_1 l0 (l0.length : Int) x8_1 = some r) ∧ Aside0 (kq ≤ k) ∧ Drawn0 w w')
  case atStart => exact ⟨(0), (0), (by first | rfl | (simp; done) | (simp [*]; done)), (by first | rfl | (simp; done) | (simp [*]; done)), H', ⟨Nat.le_refl _⟩, by repeat (first | exact Drawn0.refl _ | apply Drawn0.step)⟩
  case round =>
    clear H'
    obtain ⟨x3_1, x8_1, rfl, rfl, HA, HK1, ⟨m1, rfl⟩⟩ := hrel
    cases gk with
    | zero => exact absurd HA.out (by simp [bits_Of.l0])
    | succ k1 =>
      have H := HA.out
      clear HA
      simp only [bits_Of.l0] at H
      by_cases c2 : x8_1 < (l0.length : Int)
      · rw [if_pos c2] at H
        have c2b0 : decide (x8_1 < (l0.length : Int)) = true := decide_eq_true c2
        clear c2
        by_cases c3 : 0 ≤ x8_1
        · rw [if_pos c3] at H
          have c3b0 : decide (0 ≤ x8_1) = true := decide_eq_true c3
          clear c3
          by_cases c4 : x8_1 < (l0.length : Int)
          · rw [if_pos c4] at H
            have c4b0 : decide (x8_1 < (l0.length : Int)) = true := decide_eq_true c4
            clear c4
            replace H := Option.bind_eq_some_iff.mp H
            obtain ⟨t105, A50, H⟩ := H
            replace H : (bits_Of.l0 k1 t105 l0 (l0.length : Int) (wrap64 (x8_1 + 1))) = some r := H
            have A5 := Aside0.mk A50
            clear A50
            have H' := Aside0.mk H
            clear H
            have p104 : 0 ≤ (x8_1 : Int) := of_decide_eq_true (by first | (with_reducible assumption) | assumption)
            have q104 : x8_1 < (l0.length : Int) := of_decide_eq_true (by first | (with_reducible assumption) | assumption)
            obtain ⟨ad104, e104, hx104_0⟩ := Kd.at_int HR0.out x8_1 p104 q104
            cases e104
            replace p104 := eq_true p104
            replace q104 := eq_true q104
            go_wp2_with (first | ((with_reducible refine gate_callee (f := 102) rfl ?_); refine goesL_ (some 14) rfl rfl Try.func102 (by kernel_rfl) rfl #[.int .u64 x3_1, .int .i64 (rd l0 x8_1)] rfl (by (try simp only [List.map_toArray, List.map_cons, List.map_nil]); first | done | rfl | (simp only [List.length_drop, List.length_take]; rfl)) ?_; (with_reducible refine (bits_With.calls x3_1 (rd l0 x8_1) t105 _ A5.out).mono ?_); rintro e w' ⟨rfl, ⟨nd, rfl⟩⟩; refine ⟨_, rfl, ?_⟩))
            go_roundg k1
            case measure => have := HK1.out; omega
            case rel => exact ⟨(t105), (wrap64 (x8_1 + 1)), (by first | rfl | (simp; done) | (simp [*]; done)), (by first | rfl | (simp; done) | (simp [*]; done)), H', ⟨by have := HK1.out; omega⟩, by repeat (first | exact Drawn0.refl _ | apply Drawn0.step)⟩
          · rw [if_neg c4] at H
            exact absurd H (by simp)
        · rw [if_neg c3] at H
          exact absurd H (by simp)
      · rw [if_neg c2] at H
        have c2b0 : decide (x8_1 < (l0.length : Int)) = false := decide_eq_false c2
        clear c2
        obtain rfl := Option.some.inj H
        go_wp2
        go_ret
        exact ⟨by first | rfl | (simp; done) | (simp [*]; done), by repeat (first | exact Drawn0.refl _ | apply Drawn0.step)⟩

/-! ### twainref01_One: function 103 -/
mutual
def twainref01_One.j0 : Nat → Int → Bool → Option (Int)
  | 0, _, _ => none
  | k + 1, x0, x10 => if x10 = true then (some 0) else (twainref01_One.l0 k x0 1 0)
def twainref01_One.l0 : Nat → Int → Int → Int → Option (Int)
  | 0, _, _, _ => none
  | k + 1, x0, x3, x4 => if x4 < x0 then (twainref01_One.l0 k x0 (IntKind.u64.wrap (x3 * 2)) (wrap64 (x4 + 1))) else (some x3)
end
def twainref01_One.f (k : Nat) (a0 : Int) : Option (Int) := if a0 < 0 then (twainref01_One.j0 k a0 true) else (twainref01_One.j0 k a0 (decide (a0 > 63)))
theorem twainref01_One.mono_l : ∀ k, (∀ y0 y1, LeO (twainref01_One.j0 k y0 y1) (twainref01_One.j0 (k + 1) y0 y1)) ∧ (∀ y0 y1 y2, LeO (twainref01_One.l0 k y0 y1 y2) (twainref01_One.l0 (k + 1) y0 y1 y2))
  | 0 => ⟨fun _ _ r h => by simp [twainref01_One.j0] at h, fun _ _ _ r h => by simp [twainref01_One.l0] at h⟩
  | k + 1 => by
    obtain ⟨ih0, ih1⟩ := twainref01_One.mono_l k
    refine ⟨?_, ?_⟩
    · intro y0 y1
      unfold twainref01_One.j0
      repeat' first
      | (with_reducible exact ih0 _ _)
      | (with_reducible exact ih1 _ _ _)
      | (with_reducible exact LeO.refl _)
      | (with_reducible exact LeO.none _)
      | (with_reducible refine LeO.ite ?_ ?_)
      | (with_reducible refine LeO.bind ?_ (fun _ => ?_))
      | exact ih0 _ _
      | exact ih1 _ _ _
      | exact LeO.none _
      | refine LeO.ite ?_ ?_
      | refine LeO.bind ?_ (fun _ => ?_)
    · intro y0 y1 y2
      unfold twainref01_One.l0
      repeat' first
      | (with_reducible exact ih0 _ _)
      | (with_reducible exact ih1 _ _ _)
      | (with_reducible exact LeO.refl _)
      | (with_reducible exact LeO.none _)
      | (with_reducible refine LeO.ite ?_ ?_)
      | (with_reducible refine LeO.bind ?_ (fun _ => ?_))
      | exact ih0 _ _
      | exact ih1 _ _ _
      | exact LeO.none _
      | refine LeO.ite ?_ ?_
      | refine LeO.bind ?_ (fun _ => ?_)
theorem twainref01_One.mono : ∀ a0 k, LeO (twainref01_One.f k a0) (twainref01_One.f (k + 1) a0) := by
  intro a0 k
  obtain ⟨ih0, ih1⟩ := twainref01_One.mono_l k
  unfold twainref01_One.f
  repeat' first
      | (with_reducible exact ih0 _ _)
      | (with_reducible exact ih1 _ _ _)
      | (with_reducible exact LeO.refl _)
      | (with_reducible exact LeO.none _)
      | (with_reducible refine LeO.ite ?_ ?_)
      | (with_reducible refine LeO.bind ?_ (fun _ => ?_))
      | exact ih0 _ _
      | exact ih1 _ _ _
      | exact LeO.none _
      | refine LeO.ite ?_ ?_
      | refine LeO.bind ?_ (fun _ => ?_)
set_option maxHeartbeats 8000000 in
set_option maxRecDepth 100000 in
theorem twainref01_One.calls (k : Nat) (a0 : Int) (r : Int) (w : World) (h : twainref01_One.f k a0 = some r) :
    Calls Try.prog 103 #[.int .i64 a0] w fun e w' => e = .returned (.int .u64 r) ∧ Drawn0 w w' := by
  have H : (if a0 < 0 then (twainref01_One.j0 k a0 true) else (twainref01_One.j0 k a0 (decide (a0 > 63)))) = some r := h
  clear h
  have HC2 := Aside0.mk H
  clear H
  go_enter Try.func103, Try.ntmps103
  go_upto_region 1 with (fail)
  go_cut [10] (fun v10 wc => ∃ (kq : Nat) (x10_1 : Bool), v10 = .bool x10_1 ∧ Aside0 (twainref01_One.j0 kq a0 x10_1 = some r) ∧ Aside0 (kq ≤ k) ∧ Drawn0 w wc)
  case first =>
    have H := HC2.out
    clear HC2
    by_cases c3 : a0 < 0
    · rw [if_pos c3] at H
      have c3b0 : decide (a0 < 0) = true := decide_eq_true c3
      clear c3
      (first | rw [c3b0] | (simp only [i64_w, i32_w]; rw [c3b0]) | skip)
      have H' := Aside0.mk H
      clear H
      go_wp2
      go_meet
      case rel => exact ⟨_, (true), (by first | rfl | (simp; done) | (simp [*]; done)), H', ⟨by first | omega | exact Nat.le_refl _⟩, by repeat (first | exact Drawn0.refl _ | apply Drawn0.step)⟩
    · rw [if_neg c3] at H
      have c3b0 : decide (a0 < 0) = false := decide_eq_false c3
      clear c3
      (first | rw [c3b0] | (simp only [i64_w, i32_w]; rw [c3b0]) | skip)
      have H' := Aside0.mk H
      clear H
      go_wp2
      go_meet
      case rel => exact ⟨_, (decide (a0 > 63)), (by first | rfl | (simp; done) | (simp [*]; done)), H', ⟨by first | omega | exact Nat.le_refl _⟩, by repeat (first | exact Drawn0.refl _ | apply Drawn0.step)⟩
  case rest =>
    clear HC2
    try clear c1
    try clear p2
    try clear c3
    try clear c3b0
    obtain ⟨kq, x10_1, rfl, HA, HJ1, ⟨mc1, rfl⟩⟩ := hcut
    cases kq with
    | zero => exact absurd HA.out (by simp [twainref01_One.j0])
    | succ kj1 =>
      have H := HA.out
      clear HA
      simp only [twainref01_One.j0] at H
      by_cases c4 : x10_1 = true
      · subst c4
        have H1 : (some 0) = some r := by rw [if_pos rfl] at H; exact H
        clear H
        have H := H1
        clear H1
        obtain rfl := Option.some.inj H
        go_wp2
        go_ret
        exact ⟨by first | rfl | (simp; done) | (simp [*]; done), by repeat (first | exact Drawn0.refl _ | apply Drawn0.step)⟩
      · replace c4 := Bool.eq_false_iff.mpr c4
        subst c4
        have H1 : (twainref01_One.l0 kj1 a0 1 0) = some r := by rw [if_neg (show ¬ (false = true) by decide)] at H; exact H
        clear H
        have H := H1
        clear H1
        have H' := Aside0.mk H
        clear H
        go_wp2
        go_loopg [3, 4] kj1 (fun kq v3 v4 w' => ∃ (x3_2 : Int) (x4_2 : Int), v3 = .int .u64 x3_2 ∧ v4 = .int .i64 x4_2 ∧ Aside0 (twainref01_One.l0 kq a0 x3_2 x4_2 = some r) ∧ Aside0 (kq ≤ kj1) ∧ Drawn0 w w')
        case atStart => exact ⟨(1), (0), (by first | rfl | (simp; done) | (simp [*]; done)), (by first | rfl | (simp; done) | (simp [*]; done)), H', ⟨Nat.le_refl _⟩, by repeat (first | exact Drawn0.refl _ | apply Drawn0.step)⟩
        case round =>
          clear H'
          try clear c1
          try clear p2
          try clear c3
          try clear c3b0
          try clear c4
          try clear p2
          obtain ⟨x3_2, x4_2, rfl, rfl, HA, HK2, ⟨m2, rfl⟩⟩ := hrel
          cases gk with
          | zero => exact absurd HA.out (by simp [twainref01_One.l0])
          | succ k2 =>
            have H := HA.out
            clear HA
            simp only [twainref01_One.l0] at H
            by_cases c5 : x4_2 < a0
            · rw [if_pos c5] at H
              have c5b0 : decide (x4_2 < a0) = true := decide_eq_true c5
              clear c5
              have H' := Aside0.mk H
              clear H
              go_wp2
              go_roundg k2
              case measure => have := HJ1.out; have := HK2.out; omega
              case rel => exact ⟨(IntKind.u64.wrap (x3_2 * 2)), (wrap64 (x4_2 + 1)), (by first | rfl | (simp; done) | (simp [*]; done)), (by first | rfl | (simp; done) | (simp [*]; done)), H', ⟨by have := HJ1.out; have := HK2.out; omega⟩, by repeat (first | exact Drawn0.refl _ | apply Drawn0.step)⟩
            · rw [if_neg c5] at H
              have c5b0 : decide (x4_2 < a0) = false := decide_eq_false c5
              clear c5
              obtain rfl := Option.some.inj H
              go_wp2
              go_ret
              exact ⟨by first | rfl | (simp; done) | (simp [*]; done), by repeat (first | exact Drawn0.refl _ | apply Drawn0.step)⟩

/-! ### twainref01_Has: function 72 -/
def twainref01_Has.f (k : Nat) (a0 : Int) (a1 : Int) : Option (Bool) := if a1 ≥ 0 then (if a1 ≤ 63 then ((twainref01_One.f k a1).bind fun t106 => (if t106 = 0 then (none) else (some ((Int.tmod (IntKind.u64.wrap (Int.tdiv a0 t106)) 2) == 1)))) else (some false)) else (some false)
theorem twainref01_Has.mono : ∀ a0 a1 k, LeO (twainref01_Has.f k a0 a1) (twainref01_Has.f (k + 1) a0 a1) := by
  intro a0 a1 k
  unfold twainref01_Has.f
  repeat' first
      | (with_reducible exact twainref01_One.mono _ _)
      | (with_reducible exact LeO.refl _)
      | (with_reducible exact LeO.none _)
      | (with_reducible refine LeO.ite ?_ ?_)
      | (with_reducible refine LeO.bind ?_ (fun _ => ?_))
      | exact twainref01_One.mono _ _
      | exact LeO.none _
      | refine LeO.ite ?_ ?_
      | refine LeO.bind ?_ (fun _ => ?_)
set_option maxHeartbeats 8000000 in
set_option maxRecDepth 100000 in
theorem twainref01_Has.calls (k : Nat) (a0 : Int) (a1 : Int) (r : Bool) (w : World) (h : twainref01_Has.f k a0 a1 = some r) :
    Calls Try.prog 72 #[.int .u64 a0, .int .i64 a1] w fun e w' => e = .returned (.bool r) ∧ Drawn0 w w' := by
  have H : (if a1 ≥ 0 then (if a1 ≤ 63 then ((twainref01_One.f k a1).bind fun t106 => (if t106 = 0 then (none) else (some ((Int.tmod (IntKind.u64.wrap (Int.tdiv a0 t106)) 2) == 1)))) else (some false)) else (some false)) = some r := h
  clear h
  by_cases c3 : a1 ≥ 0
  · rw [if_pos c3] at H
    have c3b0 : decide (0 ≤ a1) = true := decide_eq_true c3
    clear c3
    by_cases c4 : a1 ≤ 63
    · rw [if_pos c4] at H
      have c4b0 : decide (a1 ≤ 63) = true := decide_eq_true c4
      clear c4
      replace H := Option.bind_eq_some_iff.mp H
      obtain ⟨t106, A50, H⟩ := H
      replace H : (if t106 = 0 then (none) else (some ((Int.tmod (IntKind.u64.wrap (Int.tdiv a0 t106)) 2) == 1))) = some r := H
      have A5 := Aside0.mk A50
      clear A50
      by_cases c6 : t106 = 0
      · rw [if_pos c6] at H
        exact absurd H (by simp)
      · rw [if_neg c6] at H
        have c6b0 : (t106 == 0) = false := beq_eq_false_iff_ne.mpr c6
        have c6b1 : (t106 != 0) = true := bne_iff_ne.mpr c6
        obtain rfl := Option.some.inj H
        go_enter Try.func72, Try.ntmps72
        go_wp2_with (first | (go_at_call 103; (with_reducible refine (twainref01_One.calls k a1 t106 _ A5.out).mono ?_); rintro e w' ⟨rfl, ⟨nd, rfl⟩⟩))
        go_ret
        exact ⟨by first | rfl | (simp; done) | (simp [*]; done), by repeat (first | exact Drawn0.refl _ | apply Drawn0.step)⟩
    · rw [if_neg c4] at H
      have c4b0 : decide (a1 ≤ 63) = false := decide_eq_false c4
      clear c4
      obtain rfl := Option.some.inj H
      go_enter Try.func72, Try.ntmps72
      go_wp2
      go_ret
      exact ⟨by first | rfl | (simp; done) | (simp [*]; done), by repeat (first | exact Drawn0.refl _ | apply Drawn0.step)⟩
  · rw [if_neg c3] at H
    have c3b0 : decide (0 ≤ a1) = false := decide_eq_false c3
    clear c3
    obtain rfl := Option.some.inj H
    go_enter Try.func72, Try.ntmps72
    go_wp2
    go_ret
    exact ⟨by first | rfl | (simp; done) | (simp [*]; done), by repeat (first | exact Drawn0.refl _ | apply Drawn0.step)⟩

/-! ### twainref01_List: function 24 -/
def twainref01_List.l0 : Nat → Int → List Int → Int → Option (List Int)
  | 0, _, _, _ => none
  | k + 1, x0, x3, x4 => if x4 < 64 then ((twainref01_Has.f k x0 x4).bind fun t107 => (if t107 = true then (if x3.length < 17592186044416 then (twainref01_List.l0 k x0 (x3 ++ [x4]) (wrap64 (x4 + 1))) else (none)) else (twainref01_List.l0 k x0 x3 (wrap64 (x4 + 1))))) else (some x3)
def twainref01_List.f (k : Nat) (a0 : Int) : Option (List Int) := twainref01_List.l0 k a0 ([] : List Int) 0
theorem twainref01_List.mono_l : ∀ k, (∀ y0 y1 y2, LeO (twainref01_List.l0 k y0 y1 y2) (twainref01_List.l0 (k + 1) y0 y1 y2))
  | 0 => fun _ _ _ r h => by simp [twainref01_List.l0] at h
  | k + 1 => by
    have ih0 := twainref01_List.mono_l k
    · intro y0 y1 y2
      unfold twainref01_List.l0
      repeat' first
      | (with_reducible exact ih0 _ _ _)
      | (with_reducible exact twainref01_Has.mono _ _ _)
      | (with_reducible exact LeO.refl _)
      | (with_reducible exact LeO.none _)
      | (with_reducible refine LeO.ite ?_ ?_)
      | (with_reducible refine LeO.bind ?_ (fun _ => ?_))
      | exact ih0 _ _ _
      | exact twainref01_Has.mono _ _ _
      | exact LeO.none _
      | refine LeO.ite ?_ ?_
      | refine LeO.bind ?_ (fun _ => ?_)
theorem twainref01_List.mono : ∀ a0 k, LeO (twainref01_List.f k a0) (twainref01_List.f (k + 1) a0) := by
  intro a0 k
  have ih0 := twainref01_List.mono_l k
  unfold twainref01_List.f
  repeat' first
      | (with_reducible exact ih0 _ _ _)
      | (with_reducible exact twainref01_Has.mono _ _ _)
      | (with_reducible exact LeO.refl _)
      | (with_reducible exact LeO.none _)
      | (with_reducible refine LeO.ite ?_ ?_)
      | (with_reducible refine LeO.bind ?_ (fun _ => ?_))
      | exact ih0 _ _ _
      | exact twainref01_Has.mono _ _ _
      | exact LeO.none _
      | refine LeO.ite ?_ ?_
      | refine LeO.bind ?_ (fun _ => ?_)
set_option maxHeartbeats 8000000 in
set_option maxRecDepth 100000 in
theorem twainref01_List.calls (k : Nat) (a0 : Int) (r : List Int) (w : World) (h : twainref01_List.f k a0 = some r) :
    Calls Try.prog 24 #[.int .u64 a0] w fun e w' => ∃ v0_ : Value, e = .returned (v0_) ∧ Kd.R (Kd.int .i64) 3 w' w.heap.size (fun _ => True) v0_ r ∧ Below w.heap.size w w' := by
  have HB := Aside0.mk (Below.refl w.heap.size w)
  have H : (twainref01_List.l0 k a0 ([] : List Int) 0) = some r := h
  clear h
  have H' := Aside0.mk H
  clear H
  go_enter Try.func24, Try.ntmps24
  go_wp2
  go_loopg [3, 4] k (fun kq v3 v4 w' => ∃ (x3_1 : List Int) (x4_1 : Int), v4 = .int .i64 x4_1 ∧ Aside0 (twainref01_List.l0 kq a0 x3_1 x4_1 = some r) ∧ Aside0 (kq ≤ k) ∧ Aside0 (Kd.R (Kd.int .i64) 3 w' w.heap.size (fun _ => True) v3 x3_1) ∧ Aside0 (Below w.heap.size w w'))
  case atStart => exact ⟨(([] : List Int)), (0), (by first | rfl | (simp; done) | (simp [*]; done)), H', ⟨Nat.le_refl _⟩, ⟨by first | exact Kd.R_nil _ _ _ _ _ | exact Kd.N_nil _ _ _ _ _ | exact Kd.V_nil _ _ _ _ _ | exact Kd.Q_nil _ _ _ _ _ | exact Kd.S_nil _ _ _ _ _⟩, ⟨by repeat (first | (with_reducible first | exact HB.out | apply below_alloc | apply pw_below_drewN | apply below_drew1) | exact HB.out)⟩⟩
  case round =>
    clear H'
    obtain ⟨x3_1, x4_1, rfl, HA, HK1, HO_3, HB⟩ := hrel
    cases gk with
    | zero => exact absurd HA.out (by simp [twainref01_List.l0])
    | succ k1 =>
      have H := HA.out
      clear HA
      simp only [twainref01_List.l0] at H
      by_cases c2 : x4_1 < 64
      · rw [if_pos c2] at H
        have c2b0 : decide (x4_1 < 64) = true := decide_eq_true c2
        clear c2
        replace H := Option.bind_eq_some_iff.mp H
        obtain ⟨t107, A30, H⟩ := H
        replace H : (if t107 = true then (if x3_1.length < 17592186044416 then (twainref01_List.l0 k1 a0 (x3_1 ++ [x4_1]) (wrap64 (x4_1 + 1))) else (none)) else (twainref01_List.l0 k1 a0 x3_1 (wrap64 (x4_1 + 1)))) = some r := H
        have A3 := Aside0.mk A30
        clear A30
        by_cases c4 : t107 = true
        · subst c4
          have H1 : (if x3_1.length < 17592186044416 then (twainref01_List.l0 k1 a0 (x3_1 ++ [x4_1]) (wrap64 (x4_1 + 1))) else (none)) = some r := by rw [if_pos rfl] at H; exact H
          clear H
          have H := H1
          clear H1
          by_cases c5 : x3_1.length < 17592186044416
          · rw [if_pos c5] at H
            have LMc5 := Aside0.mk c5
            clear c5
            obtain ⟨y108, hy108⟩ : ∃ y_ : List Int, y_ = (x3_1 ++ [x4_1]) := ⟨_, rfl⟩
            replace H : (twainref01_List.l0 k1 a0 y108 (wrap64 (x4_1 + 1))) = some r := by first | (rw [hy108]; with_reducible exact H) | (have H2_ := (Option.bind_some _ _).symm.trans H; rw [hy108]; with_reducible exact H2_) | (have H2_ := (Option.bind_some _ _).symm.trans H; with_reducible exact H2_) | with_reducible exact H | (rw [hy108]; exact H) | exact H
            have Ny108 := Aside0.mk hy108
            clear hy108
            have H' := Aside0.mk H
            clear H
            go_wp2_with (first | ((with_reducible refine gate_callee (f := 72) rfl ?_); refine goesL_ (some 11) rfl rfl Try.func72 (by kernel_rfl) rfl #[.int .u64 a0, .int .i64 x4_1] rfl (by (try simp only [List.map_toArray, List.map_cons, List.map_nil]); first | done | rfl | (simp only [List.length_drop, List.length_take]; rfl)) ?_; (with_reducible refine (twainref01_Has.calls k1 a0 x4_1 true _ A3.out).mono ?_); rintro e w' ⟨rfl, ⟨nd, rfl⟩⟩; refine ⟨_, rfl, ?_⟩) | ((with_reducible refine gate_builtin (b := .append) (xs := #[.tmp 12, .tmp 14]) rfl ?_); at_builtin; refine Kd.R_append (Kd.int .i64) (w0 := w) w.heap.size rfl (.tmp 12) (.tmp 14) 54 3 (.int .i64 0) 8 rfl Try.underlying54 info3 rfl (by decide) (by omega) u3 x3_1 x4_1 [.int .i64 x4_1] (fun _ => True) (fun _ => False) rfl rfl ?aP (fun _ hk => hk.elim) ?aF ?aO ?aB ?aS ?aL ?_; (case aP => exact rfl); (case aB => exact (by repeat (first | (with_reducible first | exact HB.out | apply below_alloc | apply pw_below_drewN | apply below_drew1) | exact HB.out))); (case aF => exact (fun _ _ => trivial)); (case aO => exact (by (with_reducible repeat (first | apply Kd.R_alloc | apply Kd.R_drewN | apply Kd.R_drew)); exact HO_3.out)); (case aS => exact (below_size (by repeat (first | (with_reducible first | exact HB.out | apply below_alloc | apply pw_below_drewN | apply below_drew1) | exact HB.out)))); (case aL => have := LMc5.out; omega); intro v109 w6 ho hb hg hat; rw [← Ny108.out] at ho; have n0_ := Aside0.mk (hb); have n1_ := Aside0.mk (ho); clear HB; clear HO_3; have HB := n0_; have HO110 := n1_; clear n0_ n1_; clear ho hb hg hat))
            go_roundg k1
            case measure => have := HK1.out; omega
            case rel => exact ⟨(y108), (wrap64 (x4_1 + 1)), (by first | rfl | (simp; done) | (simp [*]; done)), H', ⟨by have := HK1.out; omega⟩, ⟨by (with_reducible repeat (first | apply Kd.R_alloc | apply Kd.R_drewN | apply Kd.R_drew)); exact HO110.out⟩, ⟨by repeat (first | (with_reducible first | exact HB.out | apply below_alloc | apply pw_below_drewN | apply below_drew1) | exact HB.out)⟩⟩
          · rw [if_neg c5] at H
            exact absurd H (by simp)
        · replace c4 := Bool.eq_false_iff.mpr c4
          subst c4
          have H1 : (twainref01_List.l0 k1 a0 x3_1 (wrap64 (x4_1 + 1))) = some r := by rw [if_neg (show ¬ (false = true) by decide)] at H; exact H
          clear H
          have H := H1
          clear H1
          have H' := Aside0.mk H
          clear H
          go_wp2_with (first | ((with_reducible refine gate_callee (f := 72) rfl ?_); refine goesL_ (some 11) rfl rfl Try.func72 (by kernel_rfl) rfl #[.int .u64 a0, .int .i64 x4_1] rfl (by (try simp only [List.map_toArray, List.map_cons, List.map_nil]); first | done | rfl | (simp only [List.length_drop, List.length_take]; rfl)) ?_; (with_reducible refine (twainref01_Has.calls k1 a0 x4_1 false _ A3.out).mono ?_); rintro e w' ⟨rfl, ⟨nd, rfl⟩⟩; refine ⟨_, rfl, ?_⟩))
          go_roundg k1
          case measure => have := HK1.out; omega
          case rel => exact ⟨(x3_1), (wrap64 (x4_1 + 1)), (by first | rfl | (simp; done) | (simp [*]; done)), H', ⟨by have := HK1.out; omega⟩, ⟨by (with_reducible repeat (first | apply Kd.R_alloc | apply Kd.R_drewN | apply Kd.R_drew)); exact HO_3.out⟩, ⟨by repeat (first | (with_reducible first | exact HB.out | apply below_alloc | apply pw_below_drewN | apply below_drew1) | exact HB.out)⟩⟩
      · rw [if_neg c2] at H
        have c2b0 : decide (x4_1 < 64) = false := decide_eq_false c2
        clear c2
        obtain rfl := Option.some.inj H
        go_wp2
        go_ret
        exact ⟨_, by first | rfl | (simp [errW_none, errW_some] <;> rfl) | (simp [*, errW_none, errW_some] <;> rfl), by (with_reducible repeat (first | apply Kd.R_alloc | apply Kd.R_drewN | apply Kd.R_drew)); exact HO_3.out, by repeat (first | (with_reducible first | exact HB.out | apply below_alloc | apply pw_below_drewN | apply below_drew1) | exact HB.out)⟩

end Go.Proofs.Ytoobbolaoldacaa.Hot
