/-
  The contracts of package later's New, Len, Spans, Over and Push, and of the reference's Spans, Over and Push.
-/
import Derived.Test.YtoobbolaoldacaaLaterS
import Derived.Test.YtoobbolaoldacaaCloneB
namespace Go.Proofs.Ytoobbolaoldacaa.LaterW
open Go.RowKit Go.Proofs.Ytoobbolaoldacaa Go.Proofs.Ytoobbolaoldacaa.Later Go.Proofs.Ytoobbolaoldacaa.LaterSP Go.Proofs.Ytoobbolaoldacaa.LaterP Go.Proofs.Ytoobbolaoldacaa.RowOwn Go.Proofs.Ytoobbolaoldacaa.CloneB Go.Proofs.YtoobbolaoldacaaW.PrintWords Go.Proofs.YtoobbolaoldacaaW.PrintLast Go.Proofs.YtoobbolaoldacaaW.PrintMore
set_option linter.unusedVariables false
theorem bl_to {g : Nat} {w W W' : World} (h : Below g w W) (h' : Below W.heap.size W W') (hg : g ≤ W.heap.size) : Below g w W' := h.trans (h'.mono hg)
theorem bl_drawn {w w' : World} (h : Drawn0 w w') : Below w.heap.size w w' := by obtain ⟨n, rfl⟩ := h; exact bl_drew (Below.refl _ _) n
theorem New_c (w : World) : Calls Try.prog 14 #[] w fun e w' => e = .returned (.pointer (some ⟨w.heap.size, 0, none⟩)) ∧ w.alloc (.cells #[.bool true, .slice none 0 0] 73) = w' := by
  go_enter Try.func14, Try.ntmps14
  go_wp2
  go_ret
  exact ⟨rfl, rfl⟩
theorem is_c (g : Nat) (b : Bool) (w : World) (h : w.cell? ⟨g, 0, none⟩ = some (.bool b)) :
    Calls Try.prog 61 #[.pointer (some ⟨g, 0, none⟩)] w fun e w' => e = .returned (.bool b) ∧ w = w' := by
  go_enter Try.func61, Try.ntmps61
  go_wp2
  go_ret
  exact ⟨rfl, rfl⟩
theorem is_nil (w : World) : Calls Try.prog 61 #[.pointer none] w fun e w' => e = .returned (.bool false) ∧ w = w' := by
  go_enter Try.func61, Try.ntmps61
  go_wp2
  go_ret
  exact ⟨rfl, rfl⟩
theorem Len_c (g base : Nat) (L : List Wr) (S : Nat → Prop) (w : World) (h : QAt w g base L S) :
    Calls Try.prog 17 #[.pointer (some ⟨g, 0, none⟩)] w fun e w' => e = .returned (.int .i64 (L.length : Int)) ∧ w = w' := by
  obtain ⟨c0, A, c, c1, _, _, _⟩ := q_cells h
  have I := Lib.hid (is_c g true w c0)
  have hn := (rw_lt h).2.2
  clear h
  go_enter Try.func17, Try.ntmps17
  go_wp2_with fail
  refine I.out.mono ?_
  rintro e w' ⟨rfl, rfl⟩
  go_wp2_with fail
  go_ret
  exact ⟨rfl, rfl⟩
def spanOf (x : Wr) : S27 := ⟨x.off, x.len⟩
theorem info27 : (Try.prog.info? 27).map (fun i => (i.zero, i.size, i.bytes)) = some (some (.agg #[.int .i64 0, .int .i64 0]), k27.sz, 16) := by kernel_rfl
theorem spans_next (L : List Wr) (k : Nat) (h : k < L.length) : (L.take (k + 1)).map spanOf = (L.take k).map spanOf ++ [⟨L[k].off, L[k].len⟩] := by
  rw [List.take_add_one, List.getElem?_eq_getElem h, List.map_append]
  rfl
set_option maxRecDepth 100000 in
set_option maxHeartbeats 1000000 in
theorem Spans_c (g base : Nat) (L : List Wr) (S : Nat → Prop) (w : World) (h : QAt w g base L S) :
    Calls Try.prog 31 #[.pointer (some ⟨g, 0, none⟩)] w fun e w' => ∃ v, e = .returned v ∧ Kd.R k27 27 w' w.heap.size (fun _ => True) v (L.map spanOf) ∧ Below w.heap.size w w' := by
  obtain ⟨c0, A, c, c1, hc, hC, _⟩ := q_cells h
  have I := Lib.hid (is_c g true w c0)
  have hn := (rw_lt h).2.2
  have HC := Lib.hid hC
  have hu := Try.underlying34
  clear h hC c0
  go_enter Try.func31, Try.ntmps31
  go_wp2_with fail
  refine I.out.mono ?_
  rintro e w' ⟨rfl, rfl⟩
  go_wp2_with fail
  go_loopw [3, 14] (fun av iv wr => ∃ (k : Nat), k ≤ L.length ∧ iv = .int .i64 k ∧ Kd.R k27 27 wr w.heap.size (fun _ => True) av ((L.take k).map spanOf) ∧ Below w.heap.size w wr)
    (fun av iv _ => L.length - (intOf iv).toNat)
  case atStart => exact ⟨0, Nat.zero_le _, rfl, Kd.R_nil _ _ _ _ _, Below.refl _ _⟩
  case round =>
    obtain ⟨k, hk, rfl, hR, hB⟩ := hrel
    have HR := Lib.hid hR
    have HB := Lib.hid hB
    clear hR hB
    by_cases hlt : k < L.length
    · have hlt' : (k : Int) < (L.length : Int) := by omega
      obtain ⟨ad, D, cd, rfl, x0, x1, x2, x3, _, _⟩ := at_KW (Kd.C_below HC.out HB.out) k hlt
      have HNX := Lib.hid (spans_next L k hlt)
      have hPl : ((L.take k).map spanOf).length < 17592186044416 / 16 := by rw [List.length_map, List.length_take]; omega
      have HPL := Lib.hid hPl
      clear hPl
      generalize (L.take k).map spanOf = P at HR HNX HPL
      generalize L[k].off = yo at x1 HNX
      generalize L[k].len = yl at x2 HNX
      generalize L[k].id = yi at x0
      generalize L[k].data.length = yd at x3
      go_wp2_with (first
        | ((with_reducible refine gate_builtin (b := .append) (xs := #[.tmp 18, .tmp 21]) rfl ?_); at_builtin; refine Kd.R_append k27 (w0 := w) w.heap.size rfl (.tmp 18) (.tmp 21) 68 27 (.agg #[.int .i64 0, .int .i64 0]) 16 rfl Try.underlying68 info27 rfl (by decide) (by omega) u3 P (⟨yo, yl⟩ : S27) [.int .i64 yo, .int .i64 yl] (fun _ => True) (fun _ => False) rfl (by first | (go_simp; done) | (go_simp; rfl)) ?aP (fun _ hk => hk.elim) ?aF ?aO ?aB ?aS ?aL ?_; (case aP => exact k27_mkM _ _ _ (⟨yo, yl⟩ : S27)); (case aB => exact (by repeat (first | (with_reducible first | exact HB.out | apply below_alloc | apply pw_below_drewN | apply below_drew1) | exact HB.out))); (case aF => exact (fun _ _ => trivial)); (case aO => exact (by (with_reducible repeat (first | apply Kd.R_alloc | apply Kd.R_drewN | apply Kd.R_drew)); exact HR.out)); (case aS => exact (below_size (by repeat (first | (with_reducible first | exact HB.out | apply below_alloc | apply pw_below_drewN | apply below_drew1) | exact HB.out)))); (case aL => have := HPL.out; omega); intro v9 w9 ho hb hg hat; have HO9 := Lib.hid ho; have HB9 := Lib.hid hb; clear ho hb hg hat))
      refine ⟨⟨k + 1, by omega, by go_num, by rw [HNX.out]; exact HO9.out, HB9.out⟩, by simp [intOf]; omega⟩
    · have hlt' : ¬ (k : Int) < (L.length : Int) := by omega
      have hfin : (L.take k).map spanOf = L.map spanOf := by rw [List.take_of_length_le (by omega)]
      rw [hfin] at HR
      clear hfin
      go_wp2_with fail
      go_ret
      exact ⟨_, rfl, HR.out, HB.out⟩
set_option maxRecDepth 100000 in
set_option maxHeartbeats 1000000 in
theorem RSpans_c (g base : Nat) (L : List Wr) (S : Nat → Prop) (w : World) (h : RQAt w g base L S) :
    Calls Try.prog 32 #[.pointer (some ⟨g, 0, none⟩)] w fun e w' => ∃ v, e = .returned v ∧ Kd.R k27 27 w' w.heap.size (fun _ => True) v (L.map spanOf) ∧ Below w.heap.size w w' := by
  obtain ⟨A, c, c1, hc, hC, _⟩ := rq_cells h
  have hn := (rw_lt h).2.2
  have HC := Lib.hid hC
  have hu := Try.underlying62
  clear h hC
  go_enter Try.func32, Try.ntmps32
  go_wp2_with fail
  go_loopw [3, 11] (fun av iv wr => ∃ (k : Nat), k ≤ L.length ∧ iv = .int .i64 k ∧ Kd.R k27 27 wr w.heap.size (fun _ => True) av ((L.take k).map spanOf) ∧ Below w.heap.size w wr)
    (fun av iv _ => L.length - (intOf iv).toNat)
  case atStart => exact ⟨0, Nat.zero_le _, rfl, Kd.R_nil _ _ _ _ _, Below.refl _ _⟩
  case round =>
    obtain ⟨k, hk, rfl, hR, hB⟩ := hrel
    have HR := Lib.hid hR
    have HB := Lib.hid hB
    clear hR hB
    by_cases hlt : k < L.length
    · have hlt' : (k : Int) < (L.length : Int) := by omega
      obtain ⟨ad, D, cd, rfl, x0, x1, x2, x3, _, _⟩ := at_KW (Kd.C_below HC.out HB.out) k hlt
      have HNX := Lib.hid (spans_next L k hlt)
      have hPl : ((L.take k).map spanOf).length < 17592186044416 / 16 := by rw [List.length_map, List.length_take]; omega
      have HPL := Lib.hid hPl
      clear hPl
      generalize (L.take k).map spanOf = P at HR HNX HPL
      generalize L[k].off = yo at x1 HNX
      generalize L[k].len = yl at x2 HNX
      generalize L[k].id = yi at x0
      generalize L[k].data.length = yd at x3
      go_wp2_with (first
        | ((with_reducible refine gate_builtin (b := .append) (xs := #[.tmp 15, .tmp 18]) rfl ?_); at_builtin; refine Kd.R_append k27 (w0 := w) w.heap.size rfl (.tmp 15) (.tmp 18) 68 27 (.agg #[.int .i64 0, .int .i64 0]) 16 rfl Try.underlying68 info27 rfl (by decide) (by omega) u3 P (⟨yo, yl⟩ : S27) [.int .i64 yo, .int .i64 yl] (fun _ => True) (fun _ => False) rfl (by first | (go_simp; done) | (go_simp; rfl)) ?aP (fun _ hk => hk.elim) ?aF ?aO ?aB ?aS ?aL ?_; (case aP => exact k27_mkM _ _ _ (⟨yo, yl⟩ : S27)); (case aB => exact (by repeat (first | (with_reducible first | exact HB.out | apply below_alloc | apply pw_below_drewN | apply below_drew1) | exact HB.out))); (case aF => exact (fun _ _ => trivial)); (case aO => exact (by (with_reducible repeat (first | apply Kd.R_alloc | apply Kd.R_drewN | apply Kd.R_drew)); exact HR.out)); (case aS => exact (below_size (by repeat (first | (with_reducible first | exact HB.out | apply below_alloc | apply pw_below_drewN | apply below_drew1) | exact HB.out)))); (case aL => have := HPL.out; omega); intro v9 w9 ho hb hg hat; have HO9 := Lib.hid ho; have HB9 := Lib.hid hb; clear ho hb hg hat))
      refine ⟨⟨k + 1, by omega, by go_num, by rw [HNX.out]; exact HO9.out, HB9.out⟩, by simp [intOf]; omega⟩
    · have hlt' : ¬ (k : Int) < (L.length : Int) := by omega
      have hfin : (L.take k).map spanOf = L.map spanOf := by rw [List.take_of_length_le (by omega)]
      rw [hfin] at HR
      clear hfin
      go_wp2_with fail
      go_ret
      exact ⟨_, rfl, HR.out, HB.out⟩
end Go.Proofs.Ytoobbolaoldacaa.LaterW
