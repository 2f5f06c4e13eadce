/-
  bytes.Repeat of one byte, sixteen times (printed by tools/mkdiceb.py).
-/
import Derived.Test.YtoobbolaoldacaaDiceF
import Derived.Laws.CopyOwn
import Derived.Laws.Externs
import Derived.Lib.MakeNoZero
import Derived.Deep.RegionLaw
import Derived.LoopTactic
namespace Go.Proofs.Ytoobbolaoldacaa.DiceW
open Go.RowKit Go.Proofs.Ytoobbolaoldacaa Go.Proofs.Ytoobbolaoldacaa.Dice Go.Proofs.Ytoobbolaoldacaa.DiceP Go.Proofs.Ytoobbolaoldacaa.RowOwn Go.Proofs.YtoobbolaoldacaaW.PrintWords Go.Proofs.YtoobbolaoldacaaW.PrintLast Go.Proofs.YtoobbolaoldacaaW.PrintMore
attribute [local go_sem] max2_int min2_int max_two min_two
set_option linter.unusedVariables false
set_option maxRecDepth 20000 in
theorem mul64_c (w : World) : Calls Try.prog 132 #[.int .u64 1, .int .u64 16] w fun e w' => e = .returned (.tuple #[.int .u64 0, .int .u64 16]) ∧ w = w' := by
  go_enter Try.func132, Try.ntmps132
  go_wp2_with fail
  go_ret2
  exact ⟨by kernel_rfl, rfl⟩
set_option maxRecDepth 20000 in
theorem mul_c (w : World) : Calls Try.prog 126 #[.int .u64 1, .int .u64 16] w fun e w' => e = .returned (.tuple #[.int .u64 0, .int .u64 16]) ∧ w = w' := by
  go_enter Try.func126, Try.ntmps126
  go_wp2_with (go_at_call 132; refine (mul64_c _).mono ?_; rintro e w' ⟨rfl, rfl⟩)
  go_ret2
  exact ⟨rfl, rfl⟩
theorem szU8 : (Try.prog.info? 5).map (·.size) = some 1 := by kernel_rfl
theorem rb_cell {W : World} {g k : Nat} {L : List Value} {v : Value} (hg : W.heap[g]? = some (.cells L.toArray 5 (0, 0))) (hL : L.take k = List.replicate k v) : ∀ j u, (List.replicate k v)[j]? = some u → W.cell? ((⟨g, 0, none⟩ : Addr).add j) = some u := by
  intro j u hu
  have hj : j < k := by have := (List.getElem?_eq_some_iff.1 hu).1; simpa using this
  have h1 := blk_cell hg j
  rw [← hL, List.getElem?_take, if_pos hj] at hu
  have e : ((⟨g, 0, none⟩ : Addr).add j) = ⟨g, j, none⟩ := by simp [Addr.add]; exact fun h => h.symm
  rw [e, h1]
  simpa using hu
theorem rb_splice {k : Nat} {L : List Value} {v : Value} (hL : L.take k = List.replicate k v) (h : k + k ≤ L.length) : (splice L k (List.replicate k v)).take (k + k) = List.replicate (k + k) v := by
  unfold splice
  rw [hL, ← List.append_assoc, List.replicate_append_replicate, List.take_left' (by simp)]
theorem rb_len {k : Nat} {L : List Value} {v : Value} (h : 16 ≤ L.length) (hk : k + k ≤ 16) : 16 ≤ (splice L k (List.replicate k v)).length := by
  rw [length_splice _ _ _ (by rw [List.length_replicate]; omega)]
  exact h
theorem copy_run {W w0 : World} {B g off dLen dCap sLen sCap : Nat} {ad : Addr} {cur cs : List Value} (hg : W.heap[g]? = some (.cells cur.toArray 5 (0, 0))) (hn : cs.length = Nat.min sLen dLen) (hsrc : ∀ j v, cs[j]? = some v → W.cell? (ad.add j) = some v) (hfit : off + cs.length ≤ cur.length) (h1 : ∀ v ∈ cs, v.oneCell' = true) (hb : Below B w0 W) (hB : B ≤ g) :
    ∃ W', (Builtin.copy_ #[28, 28] 3 #[.slice (some ⟨g, off, none⟩) dLen dCap, .slice (some ad) sLen sCap]).run Try.prog W = .ok (goInt cs.length) W' ∧ Hid (W'.heap[g]? = some (.cells (splice cur off cs).toArray 5 (0, 0))) ∧ Below B w0 W' :=
  ⟨_, run_copy_row Try.prog W 28 28 3 5 g off dLen dCap ad sLen sCap cur.toArray 5 cs Try.underlying28 szU8 hg hn hsrc (by simpa using hfit) h1, (show _ = _ by simpa [splice] using setRow_heap W g _ _ 5 _ hg), below_setRow hb hB _⟩
theorem rb_one {W : World} {ad : Addr} {v : Value} (h : W.cell? ad = some v) : ∀ j u, [v][j]? = some u → W.cell? (ad.add j) = some u := by
  intro j u hu
  match j, hu with
  | 0, hu => injection hu with hu; subst hu; simpa [Addr.add] using h
  | j + 1, hu => simp at hu
theorem rb_first {L : List Value} {v : Value} : (splice L 0 [v]).take 1 = List.replicate 1 v := by simp [splice]
theorem one_rep {v : Value} (k : Nat) (hv : v.oneCell' = true) : ∀ u ∈ List.replicate k v, u.oneCell' = true := by
  intro u hu
  rw [(List.mem_replicate.1 hu).2]
  exact hv
theorem rb_C {W : World} {g : Nat} {L : List Value} {x : Int} (hg : W.heap[g]? = some (.cells L.toArray 5 (0, 0))) (hL : L.take 16 = List.replicate 16 (.int .u8 x)) : Kd.C KB W (some ⟨g, 0, none⟩) 16 (List.replicate 16 x) := by
  refine ⟨by simp, by decide, fun _ => ⟨_, rfl, fun j p hj => ⟨[.int .u8 p], rfl, rfl, fun i u hu => ?_⟩⟩⟩
  have hj2 : j < 16 := by have := (List.getElem?_eq_some_iff.1 hj).1; simpa using this
  have hp : p = x := by
    have := List.mem_of_getElem? hj
    exact (List.mem_replicate.1 this).2
  subst hp
  match i, hu with
  | 0, hu =>
    refine rb_cell hg hL _ u ?_
    injection hu with hu
    subst hu
    show (List.replicate 16 _)[j * 1 + 0]? = _
    rw [List.getElem?_replicate, if_pos (by omega)]
  | i + 1, hu => simp at hu
set_option maxRecDepth 20000 in
set_option maxHeartbeats 4000000 in
theorem repeat_c (ad : Addr) (c : Nat) (x : Int) (w : World) (had : ad.block < w.heap.size) (hr : w.cell? ad = some (.int .u8 x)) :
    Calls Try.prog 110 #[.slice (some ad) 1 c, .int .i64 16] w fun e w' => e = .returned (.slice (some ⟨w.heap.size, 0, none⟩) 16 16) ∧ Kd.C KB w' (some ⟨w.heap.size, 0, none⟩) 16 (List.replicate 16 x) ∧ Below w.heap.size w w' := by
  obtain ⟨cs, hrunM, hle, _⟩ := Lib.run_makeNoZero (P := Try.prog) w #[3] 28 5 Try.underlying28 16 (by omega)
  have hcall : (callFunc 127 #[.int .i64 16]).run Try.prog w = .ok (.value (.slice (some ⟨w.heap.size, 0, none⟩) 16 cs.size)) ((w.alloc (.cells cs 5)).drewN 2) := by
    rw [run_callFunc_extern Try.func127 (by kernel_rfl) (by kernel_rfl) (by kernel_rfl) (e := Extern.BytealgMakeNoZero.makeNoZero #[3] #[28]) (by kernel_rfl)]
    have h1 : (Extern.BytealgMakeNoZero.makeNoZero #[3] #[28] #[.int .i64 16]).run Try.prog w = _ := hrunM
    rw [h1]
    rfl
  clear hrunM
  have i1 : (16 : Int) ≤ (cs.size : Int) := by omega
  have MC := Lib.hid (mul_c w)
  have HR := Lib.hid hr
  obtain ⟨v, hv⟩ : ∃ v, v = Value.int .u8 x := ⟨_, rfl⟩
  have hv1 := Lib.hid (show v.oneCell' = true by rw [hv]; rfl)
  have hv0 := Lib.hid hv
  rw [← hv] at hr
  clear hv
  have hbk : ((w.alloc (.cells cs 5)).drewN 2).heap[w.heap.size]? = some (.cells cs.toList.toArray 5 (0, 0)) := by
    rw [Array.toArray_toList]
    exact new_at w _
  have HB0 := Lib.hid hbk
  have hbw := bl_drew (bl_all (Below.refl w.heap.size w) (.cells cs 5)) 2
  have HW0 := Lib.hid hbw
  have hrw : ((w.alloc (.cells cs 5)).drewN 2).cell? ad = some v := (hbw.cell had).trans hr
  have hsz : 16 ≤ cs.toList.length := by rw [Array.length_toList]; exact hle
  have HRW := Lib.hid hrw
  have HN0 := Lib.hid hsz
  obtain ⟨W1, hcp, HB1, HW1⟩ := copy_run (W := (w.alloc (.cells cs 5)).drewN 2) (w0 := w) (B := w.heap.size) (g := w.heap.size) (off := 0) (dLen := 16) (dCap := 16) (ad := ad) (sLen := 1) (sCap := c) (cur := cs.toList) (cs := [v]) hbk rfl (rb_one hrw) (by simp; omega) (fun u hu => by rw [List.mem_singleton.1 hu]; exact hv1.out) hbw (Nat.le_refl _)
  clear hbk hbw hrw hsz hle hr
  go_enter Try.func110, Try.ntmps110
  go_wp2_with (first
    | (go_at_call 126; refine MC.out.mono ?_; rintro e w' ⟨rfl, rfl⟩))
  have HL1 := Lib.hid (rb_first (L := cs.toList) (v := v))
  have HN1 := Lib.hid (show 16 ≤ (splice cs.toList 0 [v]).length by rw [length_splice _ _ _ (by have := HN0.out; simp; omega)]; exact HN0.out)
  generalize splice cs.toList 0 [v] = L1 at HB1 HL1 HN1
  replace HW1 := Lib.hid HW1
  clear HB0 HN0 HRW HW0 hcall i1
  go_wp2_with fail
  refine wp_loop_rounds 5 ?_
  rw [rounds_succ]
  go_wp2_with fail
  refine start_ (n := 10) (S := fun _ => True) (ds := [7]) #[false, false, false, false, false, false, false, false, false, false] (by kernel_rfl) rfl rfl trivial (fun hHeld => ?_)
  refine pure_ (i := 0) (N := some 67) (v := ?_) (a' := ?_) #[true, false, false, false, false, false, false, false, false, false] rfl rfl (by kernel_rfl) (fun _ _ _ h => h) (Or.inl ⟨by rfl, ?_⟩) ?_ ?_
  rotate_left
  · intro w'
    go_simp
    with_reducible rfl
  rotate_left
  · simp only [Act.put, List.setIfInBounds_toArray, List.set_cons_zero, List.set_cons_succ, i64_w, i32_w]
    rfl
  refine pure_ (i := 1) (N := some 68) (v := ?_) (a' := ?_) #[true, true, false, false, false, false, false, false, false, false] rfl rfl (by kernel_rfl) (fun _ _ _ h => h) (Or.inl ⟨by rfl, ?_⟩) ?_ ?_
  rotate_left
  · intro w'
    go_simp
    with_reducible rfl
  rotate_left
  · simp only [Act.put, List.setIfInBounds_toArray, List.set_cons_zero, List.set_cons_succ, i64_w, i32_w]
    rfl
  refine pure_ (i := 2) (N := some 69) (v := ?_) (a' := ?_) #[true, true, true, false, false, false, false, false, false, false] rfl rfl (by kernel_rfl) (fun _ _ _ h => h) (Or.inl ⟨by rfl, ?_⟩) ?_ ?_
  rotate_left
  · intro w'
    go_simp
    with_reducible rfl
  rotate_left
  · simp only [Act.put, List.setIfInBounds_toArray, List.set_cons_zero, List.set_cons_succ, i64_w, i32_w]
    rfl
  refine pure_ (i := 3) (N := some 70) (v := ?_) (a' := ?_) #[true, true, true, true, false, false, false, false, false, false] rfl rfl (by kernel_rfl) (fun _ _ _ h => h) (Or.inl ⟨by rfl, ?_⟩) ?_ ?_
  rotate_left
  · intro w'
    go_simp
    with_reducible rfl
  rotate_left
  · simp only [Act.put, List.setIfInBounds_toArray, List.set_cons_zero, List.set_cons_succ, i64_w, i32_w]
    rfl
  refine pure_ (i := 4) (N := some 71) (v := ?_) (a' := ?_) #[true, true, true, true, true, false, false, false, false, false] rfl rfl (by kernel_rfl) (fun _ _ _ h => h) (Or.inl ⟨by rfl, ?_⟩) ?_ ?_
  rotate_left
  · intro w'
    go_simp
    with_reducible rfl
  rotate_left
  · simp only [Act.put, List.setIfInBounds_toArray, List.set_cons_zero, List.set_cons_succ, i64_w, i32_w]
    rfl
  refine pure_ (i := 5) (N := some 72) (v := ?_) (a' := ?_) #[true, true, true, true, true, true, false, false, false, false] rfl rfl (by kernel_rfl) (fun _ _ _ h => h) (Or.inl ⟨by rfl, ?_⟩) ?_ ?_
  rotate_left
  · intro w'
    go_simp
    with_reducible rfl
  rotate_left
  · simp only [Act.put, List.setIfInBounds_toArray, List.set_cons_zero, List.set_cons_succ, i64_w, i32_w]
    rfl
  refine pure_ (i := 6) (N := some 73) (v := ?_) (a' := ?_) #[true, true, true, true, true, true, true, false, false, false] rfl rfl (by kernel_rfl) (fun _ _ _ h => h) (Or.inl ⟨by rfl, ?_⟩) ?_ ?_
  rotate_left
  · intro w'
    go_simp
    with_reducible rfl
  rotate_left
  · simp only [Act.put, List.setIfInBounds_toArray, List.set_cons_zero, List.set_cons_succ, i64_w, i32_w]
    rfl
  refine last_ (i := 7) (N := some 74) #[true, true, true, true, true, true, true, true, false, false] rfl rfl (by kernel_rfl) (by decide) (fun K hK => ?_)
  refine step_copy_splice rfl (.tmp 70) (.tmp 73) 28 28 rfl 5 Try.underlying28 szU8 (some ⟨w.heap.size, 1, none⟩) (some ⟨w.heap.size, 0, none⟩) 15 15 1 16 rfl rfl w.heap.size 1 L1 5 HB1.out (List.replicate 1 v) rfl (fun _ => ⟨rfl, _, rfl, rb_cell HB1.out HL1.out⟩) (by rw [List.length_replicate]; have := HN1.out; omega) (one_rep _ hv1.out) w.heap.size w (bl_drew HW1.out 1) (Nat.le_refl _) ?_
  intro W2 HB2 HW2
  rw [List.length_replicate]
  refine hK.out _ _ ?_
  clear hK K
  refine norm_ (a' := ?_) ?_ ?_
  rotate_left
  · show Act.put _ (some 74) _ = _
    simp only [Act.put, List.setIfInBounds_toArray, List.set_cons_zero, List.set_cons_succ, i64_w, i32_w]
    rfl
  refine pure_ (i := 8) (N := some 75) (v := ?_) (a' := ?_) #[true, true, true, true, true, true, true, true, true, false] rfl rfl (by kernel_rfl) (fun _ _ _ h => h) (Or.inl ⟨by rfl, ?_⟩) ?_ ?_
  rotate_left
  · intro w'
    go_simp
    with_reducible rfl
  rotate_left
  · simp only [Act.put, List.setIfInBounds_toArray, List.set_cons_zero, List.set_cons_succ, i64_w, i32_w]
    rfl
  refine pure_ (i := 9) (N := some 10) (v := ?_) (a' := ?_) #[true, true, true, true, true, true, true, true, true, true] rfl rfl (by kernel_rfl) (fun _ _ _ h => h) (Or.inl ⟨by rfl, ?_⟩) ?_ ?_
  rotate_left
  · intro w'
    go_simp
    with_reducible rfl
  rotate_left
  · simp only [Act.put, List.setIfInBounds_toArray, List.set_cons_zero, List.set_cons_succ, i64_w, i32_w]
    rfl
  refine done_ (by kernel_rfl) ?_
  have HL2 := Lib.hid (rb_splice HL1.out (by have := HN1.out; omega))
  have HN2 := Lib.hid (rb_len (k := 1) (v := v) HN1.out (by omega))
  generalize splice L1 1 (List.replicate 1 v) = L2 at HB2 HL2 HN2
  replace HW2 := Lib.hid HW2
  clear HB1 HL1 HN1 HW1
  rw [show wrap64 2 = 2 by unfold wrap64; omega]
  go_wp2_with fail
  rw [rounds_succ]
  go_wp2_with fail
  refine start_ (n := 10) (S := fun _ => True) (ds := [7]) #[false, false, false, false, false, false, false, false, false, false] (by kernel_rfl) rfl rfl trivial (fun hHeld => ?_)
  refine pure_ (i := 0) (N := some 67) (v := ?_) (a' := ?_) #[true, false, false, false, false, false, false, false, false, false] rfl rfl (by kernel_rfl) (fun _ _ _ h => h) (Or.inl ⟨by rfl, ?_⟩) ?_ ?_
  rotate_left
  · intro w'
    go_simp
    with_reducible rfl
  rotate_left
  · simp only [Act.put, List.setIfInBounds_toArray, List.set_cons_zero, List.set_cons_succ, i64_w, i32_w]
    rfl
  refine pure_ (i := 1) (N := some 68) (v := ?_) (a' := ?_) #[true, true, false, false, false, false, false, false, false, false] rfl rfl (by kernel_rfl) (fun _ _ _ h => h) (Or.inl ⟨by rfl, ?_⟩) ?_ ?_
  rotate_left
  · intro w'
    go_simp
    with_reducible rfl
  rotate_left
  · simp only [Act.put, List.setIfInBounds_toArray, List.set_cons_zero, List.set_cons_succ, i64_w, i32_w]
    rfl
  refine pure_ (i := 2) (N := some 69) (v := ?_) (a' := ?_) #[true, true, true, false, false, false, false, false, false, false] rfl rfl (by kernel_rfl) (fun _ _ _ h => h) (Or.inl ⟨by rfl, ?_⟩) ?_ ?_
  rotate_left
  · intro w'
    go_simp
    with_reducible rfl
  rotate_left
  · simp only [Act.put, List.setIfInBounds_toArray, List.set_cons_zero, List.set_cons_succ, i64_w, i32_w]
    rfl
  refine pure_ (i := 3) (N := some 70) (v := ?_) (a' := ?_) #[true, true, true, true, false, false, false, false, false, false] rfl rfl (by kernel_rfl) (fun _ _ _ h => h) (Or.inl ⟨by rfl, ?_⟩) ?_ ?_
  rotate_left
  · intro w'
    go_simp
    with_reducible rfl
  rotate_left
  · simp only [Act.put, List.setIfInBounds_toArray, List.set_cons_zero, List.set_cons_succ, i64_w, i32_w]
    rfl
  refine pure_ (i := 4) (N := some 71) (v := ?_) (a' := ?_) #[true, true, true, true, true, false, false, false, false, false] rfl rfl (by kernel_rfl) (fun _ _ _ h => h) (Or.inl ⟨by rfl, ?_⟩) ?_ ?_
  rotate_left
  · intro w'
    go_simp
    with_reducible rfl
  rotate_left
  · simp only [Act.put, List.setIfInBounds_toArray, List.set_cons_zero, List.set_cons_succ, i64_w, i32_w]
    rfl
  refine pure_ (i := 5) (N := some 72) (v := ?_) (a' := ?_) #[true, true, true, true, true, true, false, false, false, false] rfl rfl (by kernel_rfl) (fun _ _ _ h => h) (Or.inl ⟨by rfl, ?_⟩) ?_ ?_
  rotate_left
  · intro w'
    go_simp
    with_reducible rfl
  rotate_left
  · simp only [Act.put, List.setIfInBounds_toArray, List.set_cons_zero, List.set_cons_succ, i64_w, i32_w]
    rfl
  refine pure_ (i := 6) (N := some 73) (v := ?_) (a' := ?_) #[true, true, true, true, true, true, true, false, false, false] rfl rfl (by kernel_rfl) (fun _ _ _ h => h) (Or.inl ⟨by rfl, ?_⟩) ?_ ?_
  rotate_left
  · intro w'
    go_simp
    with_reducible rfl
  rotate_left
  · simp only [Act.put, List.setIfInBounds_toArray, List.set_cons_zero, List.set_cons_succ, i64_w, i32_w]
    rfl
  refine last_ (i := 7) (N := some 74) #[true, true, true, true, true, true, true, true, false, false] rfl rfl (by kernel_rfl) (by decide) (fun K hK => ?_)
  refine step_copy_splice rfl (.tmp 70) (.tmp 73) 28 28 rfl 5 Try.underlying28 szU8 (some ⟨w.heap.size, 2, none⟩) (some ⟨w.heap.size, 0, none⟩) 14 14 2 16 rfl rfl w.heap.size 2 L2 5 HB2.out (List.replicate 2 v) rfl (fun _ => ⟨rfl, _, rfl, rb_cell HB2.out HL2.out⟩) (by rw [List.length_replicate]; have := HN2.out; omega) (one_rep _ hv1.out) w.heap.size w (bl_drew HW2.out 1) (Nat.le_refl _) ?_
  intro W4 HB4 HW4
  rw [List.length_replicate]
  refine hK.out _ _ ?_
  clear hK K
  refine norm_ (a' := ?_) ?_ ?_
  rotate_left
  · show Act.put _ (some 74) _ = _
    simp only [Act.put, List.setIfInBounds_toArray, List.set_cons_zero, List.set_cons_succ, i64_w, i32_w]
    rfl
  refine pure_ (i := 8) (N := some 75) (v := ?_) (a' := ?_) #[true, true, true, true, true, true, true, true, true, false] rfl rfl (by kernel_rfl) (fun _ _ _ h => h) (Or.inl ⟨by rfl, ?_⟩) ?_ ?_
  rotate_left
  · intro w'
    go_simp
    with_reducible rfl
  rotate_left
  · simp only [Act.put, List.setIfInBounds_toArray, List.set_cons_zero, List.set_cons_succ, i64_w, i32_w]
    rfl
  refine pure_ (i := 9) (N := some 10) (v := ?_) (a' := ?_) #[true, true, true, true, true, true, true, true, true, true] rfl rfl (by kernel_rfl) (fun _ _ _ h => h) (Or.inl ⟨by rfl, ?_⟩) ?_ ?_
  rotate_left
  · intro w'
    go_simp
    with_reducible rfl
  rotate_left
  · simp only [Act.put, List.setIfInBounds_toArray, List.set_cons_zero, List.set_cons_succ, i64_w, i32_w]
    rfl
  refine done_ (by kernel_rfl) ?_
  have HL4 := Lib.hid (rb_splice HL2.out (by have := HN2.out; omega))
  have HN4 := Lib.hid (rb_len (k := 2) (v := v) HN2.out (by omega))
  generalize splice L2 2 (List.replicate 2 v) = L4 at HB4 HL4 HN4
  replace HW4 := Lib.hid HW4
  clear HB2 HL2 HN2 HW2
  rw [show wrap64 4 = 4 by unfold wrap64; omega]
  go_wp2_with fail
  rw [rounds_succ]
  go_wp2_with fail
  refine start_ (n := 10) (S := fun _ => True) (ds := [7]) #[false, false, false, false, false, false, false, false, false, false] (by kernel_rfl) rfl rfl trivial (fun hHeld => ?_)
  refine pure_ (i := 0) (N := some 67) (v := ?_) (a' := ?_) #[true, false, false, false, false, false, false, false, false, false] rfl rfl (by kernel_rfl) (fun _ _ _ h => h) (Or.inl ⟨by rfl, ?_⟩) ?_ ?_
  rotate_left
  · intro w'
    go_simp
    with_reducible rfl
  rotate_left
  · simp only [Act.put, List.setIfInBounds_toArray, List.set_cons_zero, List.set_cons_succ, i64_w, i32_w]
    rfl
  refine pure_ (i := 1) (N := some 68) (v := ?_) (a' := ?_) #[true, true, false, false, false, false, false, false, false, false] rfl rfl (by kernel_rfl) (fun _ _ _ h => h) (Or.inl ⟨by rfl, ?_⟩) ?_ ?_
  rotate_left
  · intro w'
    go_simp
    with_reducible rfl
  rotate_left
  · simp only [Act.put, List.setIfInBounds_toArray, List.set_cons_zero, List.set_cons_succ, i64_w, i32_w]
    rfl
  refine pure_ (i := 2) (N := some 69) (v := ?_) (a' := ?_) #[true, true, true, false, false, false, false, false, false, false] rfl rfl (by kernel_rfl) (fun _ _ _ h => h) (Or.inl ⟨by rfl, ?_⟩) ?_ ?_
  rotate_left
  · intro w'
    go_simp
    with_reducible rfl
  rotate_left
  · simp only [Act.put, List.setIfInBounds_toArray, List.set_cons_zero, List.set_cons_succ, i64_w, i32_w]
    rfl
  refine pure_ (i := 3) (N := some 70) (v := ?_) (a' := ?_) #[true, true, true, true, false, false, false, false, false, false] rfl rfl (by kernel_rfl) (fun _ _ _ h => h) (Or.inl ⟨by rfl, ?_⟩) ?_ ?_
  rotate_left
  · intro w'
    go_simp
    with_reducible rfl
  rotate_left
  · simp only [Act.put, List.setIfInBounds_toArray, List.set_cons_zero, List.set_cons_succ, i64_w, i32_w]
    rfl
  refine pure_ (i := 4) (N := some 71) (v := ?_) (a' := ?_) #[true, true, true, true, true, false, false, false, false, false] rfl rfl (by kernel_rfl) (fun _ _ _ h => h) (Or.inl ⟨by rfl, ?_⟩) ?_ ?_
  rotate_left
  · intro w'
    go_simp
    with_reducible rfl
  rotate_left
  · simp only [Act.put, List.setIfInBounds_toArray, List.set_cons_zero, List.set_cons_succ, i64_w, i32_w]
    rfl
  refine pure_ (i := 5) (N := some 72) (v := ?_) (a' := ?_) #[true, true, true, true, true, true, false, false, false, false] rfl rfl (by kernel_rfl) (fun _ _ _ h => h) (Or.inl ⟨by rfl, ?_⟩) ?_ ?_
  rotate_left
  · intro w'
    go_simp
    with_reducible rfl
  rotate_left
  · simp only [Act.put, List.setIfInBounds_toArray, List.set_cons_zero, List.set_cons_succ, i64_w, i32_w]
    rfl
  refine pure_ (i := 6) (N := some 73) (v := ?_) (a' := ?_) #[true, true, true, true, true, true, true, false, false, false] rfl rfl (by kernel_rfl) (fun _ _ _ h => h) (Or.inl ⟨by rfl, ?_⟩) ?_ ?_
  rotate_left
  · intro w'
    go_simp
    with_reducible rfl
  rotate_left
  · simp only [Act.put, List.setIfInBounds_toArray, List.set_cons_zero, List.set_cons_succ, i64_w, i32_w]
    rfl
  refine last_ (i := 7) (N := some 74) #[true, true, true, true, true, true, true, true, false, false] rfl rfl (by kernel_rfl) (by decide) (fun K hK => ?_)
  refine step_copy_splice rfl (.tmp 70) (.tmp 73) 28 28 rfl 5 Try.underlying28 szU8 (some ⟨w.heap.size, 4, none⟩) (some ⟨w.heap.size, 0, none⟩) 12 12 4 16 rfl rfl w.heap.size 4 L4 5 HB4.out (List.replicate 4 v) rfl (fun _ => ⟨rfl, _, rfl, rb_cell HB4.out HL4.out⟩) (by rw [List.length_replicate]; have := HN4.out; omega) (one_rep _ hv1.out) w.heap.size w (bl_drew HW4.out 1) (Nat.le_refl _) ?_
  intro W8 HB8 HW8
  rw [List.length_replicate]
  refine hK.out _ _ ?_
  clear hK K
  refine norm_ (a' := ?_) ?_ ?_
  rotate_left
  · show Act.put _ (some 74) _ = _
    simp only [Act.put, List.setIfInBounds_toArray, List.set_cons_zero, List.set_cons_succ, i64_w, i32_w]
    rfl
  refine pure_ (i := 8) (N := some 75) (v := ?_) (a' := ?_) #[true, true, true, true, true, true, true, true, true, false] rfl rfl (by kernel_rfl) (fun _ _ _ h => h) (Or.inl ⟨by rfl, ?_⟩) ?_ ?_
  rotate_left
  · intro w'
    go_simp
    with_reducible rfl
  rotate_left
  · simp only [Act.put, List.setIfInBounds_toArray, List.set_cons_zero, List.set_cons_succ, i64_w, i32_w]
    rfl
  refine pure_ (i := 9) (N := some 10) (v := ?_) (a' := ?_) #[true, true, true, true, true, true, true, true, true, true] rfl rfl (by kernel_rfl) (fun _ _ _ h => h) (Or.inl ⟨by rfl, ?_⟩) ?_ ?_
  rotate_left
  · intro w'
    go_simp
    with_reducible rfl
  rotate_left
  · simp only [Act.put, List.setIfInBounds_toArray, List.set_cons_zero, List.set_cons_succ, i64_w, i32_w]
    rfl
  refine done_ (by kernel_rfl) ?_
  have HL8 := Lib.hid (rb_splice HL4.out (by have := HN4.out; omega))
  have HN8 := Lib.hid (rb_len (k := 4) (v := v) HN4.out (by omega))
  generalize splice L4 4 (List.replicate 4 v) = L8 at HB8 HL8 HN8
  replace HW8 := Lib.hid HW8
  clear HB4 HL4 HN4 HW4
  rw [show wrap64 8 = 8 by unfold wrap64; omega]
  go_wp2_with fail
  rw [rounds_succ]
  go_wp2_with fail
  refine start_ (n := 10) (S := fun _ => True) (ds := [7]) #[false, false, false, false, false, false, false, false, false, false] (by kernel_rfl) rfl rfl trivial (fun hHeld => ?_)
  refine pure_ (i := 0) (N := some 67) (v := ?_) (a' := ?_) #[true, false, false, false, false, false, false, false, false, false] rfl rfl (by kernel_rfl) (fun _ _ _ h => h) (Or.inl ⟨by rfl, ?_⟩) ?_ ?_
  rotate_left
  · intro w'
    go_simp
    with_reducible rfl
  rotate_left
  · simp only [Act.put, List.setIfInBounds_toArray, List.set_cons_zero, List.set_cons_succ, i64_w, i32_w]
    rfl
  refine pure_ (i := 1) (N := some 68) (v := ?_) (a' := ?_) #[true, true, false, false, false, false, false, false, false, false] rfl rfl (by kernel_rfl) (fun _ _ _ h => h) (Or.inl ⟨by rfl, ?_⟩) ?_ ?_
  rotate_left
  · intro w'
    go_simp
    with_reducible rfl
  rotate_left
  · simp only [Act.put, List.setIfInBounds_toArray, List.set_cons_zero, List.set_cons_succ, i64_w, i32_w]
    rfl
  refine pure_ (i := 2) (N := some 69) (v := ?_) (a' := ?_) #[true, true, true, false, false, false, false, false, false, false] rfl rfl (by kernel_rfl) (fun _ _ _ h => h) (Or.inl ⟨by rfl, ?_⟩) ?_ ?_
  rotate_left
  · intro w'
    go_simp
    with_reducible rfl
  rotate_left
  · simp only [Act.put, List.setIfInBounds_toArray, List.set_cons_zero, List.set_cons_succ, i64_w, i32_w]
    rfl
  refine pure_ (i := 3) (N := some 70) (v := ?_) (a' := ?_) #[true, true, true, true, false, false, false, false, false, false] rfl rfl (by kernel_rfl) (fun _ _ _ h => h) (Or.inl ⟨by rfl, ?_⟩) ?_ ?_
  rotate_left
  · intro w'
    go_simp
    with_reducible rfl
  rotate_left
  · simp only [Act.put, List.setIfInBounds_toArray, List.set_cons_zero, List.set_cons_succ, i64_w, i32_w]
    rfl
  refine pure_ (i := 4) (N := some 71) (v := ?_) (a' := ?_) #[true, true, true, true, true, false, false, false, false, false] rfl rfl (by kernel_rfl) (fun _ _ _ h => h) (Or.inl ⟨by rfl, ?_⟩) ?_ ?_
  rotate_left
  · intro w'
    go_simp
    with_reducible rfl
  rotate_left
  · simp only [Act.put, List.setIfInBounds_toArray, List.set_cons_zero, List.set_cons_succ, i64_w, i32_w]
    rfl
  refine pure_ (i := 5) (N := some 72) (v := ?_) (a' := ?_) #[true, true, true, true, true, true, false, false, false, false] rfl rfl (by kernel_rfl) (fun _ _ _ h => h) (Or.inl ⟨by rfl, ?_⟩) ?_ ?_
  rotate_left
  · intro w'
    go_simp
    with_reducible rfl
  rotate_left
  · simp only [Act.put, List.setIfInBounds_toArray, List.set_cons_zero, List.set_cons_succ, i64_w, i32_w]
    rfl
  refine pure_ (i := 6) (N := some 73) (v := ?_) (a' := ?_) #[true, true, true, true, true, true, true, false, false, false] rfl rfl (by kernel_rfl) (fun _ _ _ h => h) (Or.inl ⟨by rfl, ?_⟩) ?_ ?_
  rotate_left
  · intro w'
    go_simp
    with_reducible rfl
  rotate_left
  · simp only [Act.put, List.setIfInBounds_toArray, List.set_cons_zero, List.set_cons_succ, i64_w, i32_w]
    rfl
  refine last_ (i := 7) (N := some 74) #[true, true, true, true, true, true, true, true, false, false] rfl rfl (by kernel_rfl) (by decide) (fun K hK => ?_)
  refine step_copy_splice rfl (.tmp 70) (.tmp 73) 28 28 rfl 5 Try.underlying28 szU8 (some ⟨w.heap.size, 8, none⟩) (some ⟨w.heap.size, 0, none⟩) 8 8 8 16 rfl rfl w.heap.size 8 L8 5 HB8.out (List.replicate 8 v) rfl (fun _ => ⟨rfl, _, rfl, rb_cell HB8.out HL8.out⟩) (by rw [List.length_replicate]; have := HN8.out; omega) (one_rep _ hv1.out) w.heap.size w (bl_drew HW8.out 1) (Nat.le_refl _) ?_
  intro W16 HB16 HW16
  rw [List.length_replicate]
  refine hK.out _ _ ?_
  clear hK K
  refine norm_ (a' := ?_) ?_ ?_
  rotate_left
  · show Act.put _ (some 74) _ = _
    simp only [Act.put, List.setIfInBounds_toArray, List.set_cons_zero, List.set_cons_succ, i64_w, i32_w]
    rfl
  refine pure_ (i := 8) (N := some 75) (v := ?_) (a' := ?_) #[true, true, true, true, true, true, true, true, true, false] rfl rfl (by kernel_rfl) (fun _ _ _ h => h) (Or.inl ⟨by rfl, ?_⟩) ?_ ?_
  rotate_left
  · intro w'
    go_simp
    with_reducible rfl
  rotate_left
  · simp only [Act.put, List.setIfInBounds_toArray, List.set_cons_zero, List.set_cons_succ, i64_w, i32_w]
    rfl
  refine pure_ (i := 9) (N := some 10) (v := ?_) (a' := ?_) #[true, true, true, true, true, true, true, true, true, true] rfl rfl (by kernel_rfl) (fun _ _ _ h => h) (Or.inl ⟨by rfl, ?_⟩) ?_ ?_
  rotate_left
  · intro w'
    go_simp
    with_reducible rfl
  rotate_left
  · simp only [Act.put, List.setIfInBounds_toArray, List.set_cons_zero, List.set_cons_succ, i64_w, i32_w]
    rfl
  refine done_ (by kernel_rfl) ?_
  have HL16 := Lib.hid (rb_splice HL8.out (by have := HN8.out; omega))
  have HN16 := Lib.hid (rb_len (k := 8) (v := v) HN8.out (by omega))
  generalize splice L8 8 (List.replicate 8 v) = L16 at HB16 HL16 HN16
  replace HW16 := Lib.hid HW16
  clear HB8 HL8 HN8 HW8
  rw [show wrap64 16 = 16 by unfold wrap64; omega]
  go_wp2_with fail
  rw [rounds_succ]
  go_wp2_with fail
  go_ret
  refine ⟨rfl, rb_C HB16.out ?_, HW16.out⟩
  rw [HL16.out, hv0.out]
end Go.Proofs.Ytoobbolaoldacaa.DiceW
