/-
  Dice: acts copied, and compared (printed by tools/mkdiceq.py).
-/
import Derived.Test.YtoobbolaoldacaaDiceKP
import Derived.LoopTactic
namespace Go.Proofs.Ytoobbolaoldacaa.DiceW
open Go.RowKit Go.Proofs.Ytoobbolaoldacaa Go.Proofs.Ytoobbolaoldacaa.Dice Go.Proofs.Ytoobbolaoldacaa.DiceP Go.Proofs.Ytoobbolaoldacaa.RowOwn Go.Proofs.YtoobbolaoldacaaW.PrintWords Go.Proofs.YtoobbolaoldacaaW.PrintLast Go.Proofs.YtoobbolaoldacaaW.PrintMore
set_option linter.unusedVariables false
/-- an act as it lies in a row, its bytes wherever they are -/
abbrev XA := Ac × Option Addr × Nat
abbrev xcells (x : XA) : Array Value := acells x.1 (.slice x.2.1 x.1.r.data.length x.2.2)
def KX : Kd XA where
  sz := 8
  E := []
  K := fun _ x cs => cs = (xcells x).toList
  M := fun _ _ _ x cs => cs = (xcells x).toList
  K_len := by rintro _ _ _ rfl; rfl
  K_one := by rintro _ _ _ rfl u hu; simp at hu; rcases hu with rfl | rfl | rfl | rfl | rfl | rfl | rfl | rfl <;> rfl
  K_below := fun _ h => h
  K_of_M := fun h => h
  M_mono := fun _ h => h
  M_bound := fun h => h
  M_move := fun _ h => h
  M_lower := fun _ h => h
theorem KX_C {w : World} {A : Option Addr} {n : Nat} {ys : List XA} (h : Kd.C KX w A n ys) (hy : ∀ y ∈ ys, Kd.C KB w y.2.1 y.1.r.data.length y.1.r.data ∧ y.1.r.data.length ≤ y.2.2) : Kd.C KA w A n (ys.map (·.1)) := by
  refine ⟨by rw [List.length_map]; exact h.1, h.2.1, fun hn => ?_⟩
  obtain ⟨ad, e, hc⟩ := h.2.2 hn
  refine ⟨ad, e, fun j p hj => ?_⟩
  rw [List.getElem?_map] at hj
  obtain ⟨y, hy0, rfl⟩ := Option.map_eq_some_iff.1 hj
  obtain ⟨c, hl, hk, hcell⟩ := hc j y hy0
  have hk' : c = (xcells y).toList := hk
  subst hk'
  obtain ⟨h1, h2⟩ := hy y (List.mem_of_getElem? hy0)
  exact ⟨_, hl, ⟨[_], _, rfl, rfl, [_], _, rfl, rfl, [_], _, rfl, rfl, [_], _, rfl, rfl, [_], _, rfl, rfl, [_], _, rfl, rfl, [_], _, rfl, rfl, ⟨y.2.1, y.2.2, rfl, h2, h1⟩⟩, hcell⟩
theorem KA_take {w : World} {A : Option Addr} {n m : Nat} {xs : List Ac} (h : Kd.C KA w A n xs) (hm : m ≤ n) : Kd.C KA w A m (xs.take m) := by
  refine ⟨by rw [List.length_take]; have := h.1; omega, Nat.le_trans hm h.2.1, fun hn => ?_⟩
  obtain ⟨ad, e, hc⟩ := h.2.2 (by omega)
  refine ⟨ad, e, fun j p hj => ?_⟩
  rw [List.getElem?_take] at hj
  split at hj
  · exact hc j p hj
  · cases hj
theorem made_KX {w3 : World} {base e : Nat} {ok : Nat → Prop} (x : XA) : Made KX (w3.alloc (.cells (xcells x) e)) base ok (some ⟨w3.heap.size, 0, none⟩) 1 [x] := by
  refine ⟨rfl, fun _ => ⟨_, (xcells x).toList, rfl, ⟨rfl, fun j p hj => ?_⟩, fun j u hu => ?_⟩⟩
  · match j, hj with
    | 0, hj =>
      injection hj with hj
      subst hj
      exact (rfl : _ = (xcells x).toList)
    | j + 1, hj => simp at hj
  · have hn := new_at w3 (.cells (xcells x) e)
    match j, hu with
    | 0, hu => injection hu with hu; subst hu; exact blk_cell hn 0
    | 1, hu => injection hu with hu; subst hu; exact blk_cell hn 1
    | 2, hu => injection hu with hu; subst hu; exact blk_cell hn 2
    | 3, hu => injection hu with hu; subst hu; exact blk_cell hn 3
    | 4, hu => injection hu with hu; subst hu; exact blk_cell hn 4
    | 5, hu => injection hu with hu; subst hu; exact blk_cell hn 5
    | 6, hu => injection hu with hu; subst hu; exact blk_cell hn 6
    | 7, hu => injection hu with hu; subst hu; exact blk_cell hn 7
    | j + 8, hu => simp at hu
theorem info107X : (Try.prog.info? 107).map (fun i => (i.zero, i.size, i.bytes)) = some (some (.agg #[.int .i64 0, .int .i64 0, .int .i64 0, .int .u64 0, .int .i64 0, .int .i64 0, .int .i64 0, .slice none 0 0]), KX.sz, 80) := by kernel_rfl
theorem cell_keep {w w' : World} {p : Addr} {u : Value} (hb : Below w.heap.size w w') (h : w.cell? p = some u) : w'.cell? p = some u := (hb.cell (World.block_lt_of_cell? _ _ h)).trans h
set_option maxRecDepth 20000 in
set_option maxHeartbeats 2000000 in
theorem acts_c (A : Option Addr) (cap : Nat) (L : List Ac) (w : World) (hC : Kd.C KA w A L.length L) (hl : L.length ≤ 1000) :
    Calls Try.prog 57 #[.slice A L.length cap] w fun e w' => ∃ A' c', e = .returned (.slice A' L.length c') ∧ L.length ≤ c' ∧ Kd.C KA w' A' L.length L ∧ Below w.heap.size w w' := by
  have HC := Lib.hid hC
  clear hC
  go_enter Try.func57, Try.ntmps57
  go_wp2_with fail
  go_loopw [3, 8] (fun lv iv wr => ∃ (k : Nat) (ys : List XA), k ≤ L.length ∧ iv = .int .i64 (k : Int) ∧ Hid (ys.length = k) ∧ Hid (ys.map (·.1) = L.take k) ∧ Hid (∀ y ∈ ys, Kd.C KB w y.2.1 y.1.r.data.length y.1.r.data ∧ y.1.r.data.length ≤ y.2.2) ∧ Hid (Row KX 107 wr w.heap.size (fun _ => True) lv ys) ∧ Hid (Below w.heap.size w wr))
    (fun _ i _ => L.length - (intOf i).toNat)
  case atStart => exact ⟨0, [], Nat.zero_le _, rfl, Lib.hid rfl, Lib.hid rfl, Lib.hid (fun y hy => by cases hy), Lib.hid (row_nil _ _ _ _ _), Lib.hid (Below.refl _ _)⟩
  case round =>
    obtain ⟨k, ys, hk, rfl, hyl, hym, hyc, hrow, hb⟩ := hrel
    by_cases hlt : k < L.length
    · have hlt' : (k : Int) < (L.length : Int) := by omega
      obtain ⟨ad, B, d, hAd, z0, z1, z2, z3, z4, z5, z6, z7, hd, hB⟩ := at_KA HC.out k hlt
      subst hAd
      have y0 := cell_keep hb.out z0
      have y1 := cell_keep hb.out z1
      have y2 := cell_keep hb.out z2
      have y3 := cell_keep hb.out z3
      have y4 := cell_keep hb.out z4
      have y5 := cell_keep hb.out z5
      have y6 := cell_keep hb.out z6
      have y7 := cell_keep hb.out z7
      have HT := Lib.hid (show L.take (k + 1) = L.take k ++ [L[k]] by simp)
      clear z0 z1 z2 z3 z4 z5 z6 z7
      generalize L[k] = a at y0 y1 y2 y3 y4 y5 y6 y7 hd hB HT
      have HB := Lib.hid hB
      have HD := Lib.hid hd
      obtain ⟨A0, e0, rfl, he0, _⟩ := row_reads hrow.out
      have HY := Lib.hid (Nat.le_of_eq hyl.out)
      clear hB hd
      go_wp2_with ((with_reducible refine gate_builtin (b := .append) (xs := #[.tmp 12, .tmp 14]) rfl ?_); at_builtin; refine row_append_list (d := KX) (base := w.heap.size) (w := (wr.alloc (.cells (acells a (.slice B a.r.data.length d)) 106)).alloc (.cells (acells a (.slice B a.r.data.length d)) 107)) (ok := fun _ => True) (okp := fun _ => False) (xs := ys) (ys := [(a, B, d)]) (m := 1) (c2 := 1) (A := some ⟨wr.heap.size + 1, 0, none⟩) rfl (.tmp 12) (.tmp 14) 125 107 (.agg #[.int .i64 0, .int .i64 0, .int .i64 0, .int .u64 0, .int .i64 0, .int .i64 0, .int .i64 0, .slice none 0 0]) 80 rfl Try.underlying125 info107X rfl (by decide) (by omega) rfl rfl ?aO ?aM ?aP ?aF ?aS ?aL ?_; (case aO => exact row_step (row_step hrow.out (fun j _ hj => Below.heap_alloc _ _ _ hj)) (fun j _ hj => Below.heap_alloc _ _ _ hj)); (case aM => have h := made_KX (w3 := wr.alloc (.cells (acells a (.slice B a.r.data.length d)) 106)) (base := w.heap.size) (e := 107) (ok := fun _ => False) (a, B, d); rw [World.size_alloc] at h; exact h); (case aP => exact fun j hj => hj.elim); (case aF => exact fun j hj => trivial); (case aS => have h2 := hb.out.size; rw [World.size_alloc, World.size_alloc]; omega); (case aL => have := HY.out; omega); intro v6 w6 hrow6 hgr6 hat6; have HROW6 := Lib.hid hrow6; have HB6 := Lib.hid ((bl_all (bl_all hb.out (.cells (acells a (.slice B a.r.data.length d)) 106)) (.cells (acells a (.slice B a.r.data.length d)) 107)).grown hgr6 (bl_all (bl_all hb.out _) _).size (fun j hj => (row_own_g (row_bound hrow.out) j hj).2.1)); clear hrow6 hgr6 hat6)
      go_wp2_with fail
      refine ⟨⟨k + 1, ys ++ [(a, B, d)], by omega, by go_num, ?_, ?_, ?_, HROW6, HB6⟩, by simp [intOf]; omega⟩
      · exact Lib.hid (by rw [List.length_append, hyl.out]; rfl)
      · exact Lib.hid (by rw [List.map_append, hym.out, HT.out]; rfl)
      · refine Lib.hid (fun y hy => ?_)
        rcases List.mem_append.1 hy with h | h
        · exact hyc.out y h
        · obtain rfl := List.mem_singleton.1 h
          exact ⟨HB.out, HD.out⟩
    · have hlt' : ¬ (k : Int) < (L.length : Int) := by omega
      obtain rfl : k = L.length := by omega
      obtain ⟨A6, c6, rfl, hc6, hC6⟩ := row_reads hrow.out
      have HL := Lib.hid hyl.out
      go_wp2_with fail
      go_ret
      rw [hyl.out] at hC6 hc6 ⊢
      refine ⟨A6, c6, rfl, hc6, ?_, hb.out⟩
      have h1 := KX_C hC6 (fun y hy => ⟨Kd.C_below (hyc.out y hy).1 hb.out, (hyc.out y hy).2⟩)
      rw [hym.out, List.take_length] at h1
      exact h1
end Go.Proofs.Ytoobbolaoldacaa.DiceW
