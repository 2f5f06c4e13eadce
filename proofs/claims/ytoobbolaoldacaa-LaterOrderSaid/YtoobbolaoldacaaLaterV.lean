/-
  Over: the program's and the reference's.
-/
import Derived.Test.YtoobbolaoldacaaLaterC
namespace Go.Proofs.Ytoobbolaoldacaa.LaterW
open Go.RowKit Go.Proofs.Ytoobbolaoldacaa Go.Proofs.Ytoobbolaoldacaa.Later Go.Proofs.Ytoobbolaoldacaa.LaterSP Go.Proofs.Ytoobbolaoldacaa.LaterP Go.Proofs.Ytoobbolaoldacaa.RowOwn Go.Proofs.Ytoobbolaoldacaa.CloneB Go.Proofs.YtoobbolaoldacaaW.PrintWords Go.Proofs.YtoobbolaoldacaaW.PrintLast Go.Proofs.YtoobbolaoldacaaW.PrintMore
set_option linter.unusedVariables false
def idxS (p : S27 → Bool) (l : List S27) : Int := match l.findIdx? p with | none => -1 | some i => (i : Int)
theorem idxS_some {p : S27 → Bool} {l : List S27} {k : Nat} (hk : k < l.length) (h : p l[k] = true) (hb : ∀ j, ∀ hj : j < l.length, j < k → p l[j] = false) : idxS p l = (k : Int) := by
  have h1 : l.findIdx? p = some k := List.findIdx?_eq_some_iff_getElem.2 ⟨hk, h, fun j hj => by simp [hb j (by omega) hj]⟩
  unfold idxS; rw [h1]
theorem idxS_none {p : S27 → Bool} {l : List S27} (hb : ∀ j, ∀ hj : j < l.length, p l[j] = false) : idxS p l = -1 := by
  have h1 : l.findIdx? p = none := List.findIdx?_eq_none_iff.2 (fun x hx => by
    obtain ⟨j, hj, rfl⟩ := List.mem_iff_getElem.1 hx
    exact hb j hj)
  unfold idxS; rw [h1]
theorem idxS_any (p : S27 → Bool) (l : List S27) : decide (0 ≤ idxS p l) = l.any p := by
  unfold idxS
  cases h : l.findIdx? p with
  | none =>
    have : l.any p = false := by
      rw [List.any_eq_false]
      intro x hx
      simp [List.findIdx?_eq_none_iff.1 h x hx]
    rw [this]
    rfl
  | some i =>
    obtain ⟨hi, hp, _⟩ := List.findIdx?_eq_some_iff_getElem.1 h
    have : l.any p = true := List.any_eq_true.2 ⟨l[i], List.getElem_mem hi, hp⟩
    rw [this]
    simp
theorem at27 {w : World} {A : Option Addr} {n : Nat} {xs : List S27} (h : Kd.C k27 w A n xs) (i : Nat) (hi : i < xs.length) : ∃ ad , A = some ad ∧ w.cell? (ad.add (i * 2)) = some (.int .i64 xs[i].f0) ∧ w.cell? ⟨(ad.add (i * 2)).block, (ad.add (i * 2)).off + 1, none⟩ = some (.int .i64 xs[i].f1) := by
  have hn : xs.length = n := h.1
  obtain ⟨ad, e, h0, h1⟩ := at_T27 h (i : Int) (by omega) (by omega)
  rw [Int.toNat_natCast, rd_at27 xs i hi] at h0 h1
  exact ⟨ad, e, h0, h1⟩
set_option maxRecDepth 10000 in
theorem over75 (g1 : Nat) (so sl : Int) (x : S27) (w : World) (h0 : w.cell? ⟨g1, 0, none⟩ = some (.int .i64 so)) (h1 : w.cell? ⟨g1, 1, none⟩ = some (.int .i64 sl)) (hg : g1 < w.heap.size) :
    Calls Try.prog 75 #[.agg #[.int .i64 x.f0, .int .i64 x.f1], .pointer (some ⟨g1, 0, none⟩)] w fun e w' => e = .returned (.bool (meetB x.f0 x.f1 so sl)) ∧ Below w.heap.size w w' := by
  have HS := Lib.hid (fun u => span_Overlap.calls x.f0 x.f1 so sl _ u (overlap_p x.f0 x.f1 so sl))
  have hu := Try.underlying27
  have qa0 : ∀ o, (w.alloc o).cell? ⟨g1, 0, none⟩ = some (.int .i64 so) := fun o => ((bl_all (Below.refl _ w) o).cell (p := ⟨g1, 0, none⟩) hg).trans h0
  have qa1 : ∀ o, (w.alloc o).cell? ⟨g1, 1, none⟩ = some (.int .i64 sl) := fun o => ((bl_all (Below.refl _ w) o).cell (p := ⟨g1, 1, none⟩) hg).trans h1
  generalize meetB x.f0 x.f1 so sl = b at HS ⊢
  go_enter Try.func75, Try.ntmps75
  go_wp2_with fail
  refine (HS.out _).mono ?_
  rintro e w' ⟨rfl, hb⟩
  go_wp2_with fail
  go_ret
  exact ⟨rfl, bl_to (bl_all (Below.refl _ _) _) hb (by simp)⟩
theorem index105 (g1 : Nat) (p : S27 → Bool) (A : Option Addr) (c : Nat) (l : List S27) (w : World) (hC : Kd.C k27 w A l.length l) (hl : l.length ≤ 100000)
    (hp : ∀ x u, Below w.heap.size w u → Calls Try.prog 75 #[.agg #[.int .i64 x.f0, .int .i64 x.f1], .pointer (some ⟨g1, 0, none⟩)] u fun e w' => e = .returned (.bool (p x)) ∧ Below u.heap.size u w') :
    Calls Try.prog 105 #[.slice A l.length c, .func (.func 75) #[] #[.pointer (some ⟨g1, 0, none⟩)]] w fun e w' => e = .returned (.int .i64 (idxS p l)) ∧ Below w.heap.size w w' := by
  have HC := Lib.hid hC
  have HP := Lib.hid hp
  have hu := Try.underlying27
  clear hC hp
  go_enter Try.func105, Try.ntmps105
  go_wp2_with fail
  go_loopw [8] (fun i wr => ∃ (k : Nat), k ≤ l.length ∧ i = .int .i64 k ∧ Below w.heap.size w wr ∧ ∀ j, ∀ hj : j < l.length, j < k → p l[j] = false) (fun i _ => l.length - (intOf i).toNat)
  case atStart => exact ⟨0, Nat.zero_le _, rfl, Below.refl _ _, fun j hj hk => by omega⟩
  case round =>
    obtain ⟨k, hk, rfl, hB, hb⟩ := hrel
    have HB := Lib.hid hb
    have HBL := Lib.hid hB
    clear hb hB
    by_cases hlt : k < l.length
    · have hlt' : (k : Int) < (l.length : Int) := by omega
      obtain ⟨ad, rfl, hc0, hc1⟩ := at27 (Kd.C_below HC.out HBL.out) k hlt
      have CALL := HP.out l[k] wr HBL.out
      obtain ⟨b, hpb⟩ : ∃ b, p l[k] = b := ⟨_, rfl⟩
      have HPB := Lib.hid hpb
      rw [hpb] at CALL
      have hws := HBL.out.size
      clear hpb
      have HCALL := Lib.hid CALL
      clear CALL
      cases b with
      | true =>
        go_wp2_with fail
        refine HCALL.out.mono ?_
        rintro e w' ⟨rfl, hb2⟩
        go_wp2_with fail
        go_ret
        rw [idxS_some hlt HPB.out HB.out]
        exact ⟨rfl, bl_to HBL.out hb2 hws⟩
      | false =>
        go_wp2_with fail
        refine HCALL.out.mono ?_
        rintro e w' ⟨rfl, hb2⟩
        go_wp2_with fail
        refine ⟨⟨k + 1, by omega, by go_num, bl_to HBL.out hb2 hws, fun j hj hjk => ?_⟩, by simp [intOf]; omega⟩
        by_cases he : j = k
        · subst he; exact HPB.out
        · exact HB.out j hj (by omega)
    · have hlt' : ¬ (k : Int) < (l.length : Int) := by omega
      go_wp2_with fail
      go_ret
      rw [idxS_none (fun j hj => HB.out j hj (by omega))]
      exact ⟨rfl, HBL.out⟩
def overN (so sl : Int) (L : List Wr) : Bool := L.any (fun x => meetB x.off x.len so sl)
theorem over_map (so sl : Int) (L : List Wr) : (L.map spanOf).any (fun x => meetB x.f0 x.f1 so sl) = overN so sl L := by
  unfold overN
  rw [List.any_map]
  rfl
theorem contains74 (g1 : Nat) (so sl : Int) (A : Option Addr) (c : Nat) (l : List S27) (w : World) (hC : Kd.C k27 w A l.length l) (hl : l.length ≤ 100000) (h0 : w.cell? ⟨g1, 0, none⟩ = some (.int .i64 so)) (h1 : w.cell? ⟨g1, 1, none⟩ = some (.int .i64 sl)) (hg : g1 < w.heap.size) :
    Calls Try.prog 74 #[.slice A l.length c, .func (.func 75) #[] #[.pointer (some ⟨g1, 0, none⟩)]] w fun e w' => e = .returned (.bool (l.any (fun x => meetB x.f0 x.f1 so sl))) ∧ Below w.heap.size w w' := by
  have IX := Lib.hid (index105 g1 (fun x => meetB x.f0 x.f1 so sl) A c l w hC hl (fun x u hu => over75 g1 so sl x u ((hu.cell (p := ⟨g1, 0, none⟩) hg).trans h0) ((hu.cell (p := ⟨g1, 1, none⟩) hg).trans h1) (Nat.lt_of_lt_of_le hg hu.size)))
  have hA := Lib.hid (idxS_any (fun x => meetB x.f0 x.f1 so sl) l)
  clear hC h0 h1
  generalize l.any (fun x => meetB x.f0 x.f1 so sl) = r at hA ⊢
  generalize idxS (fun x => meetB x.f0 x.f1 so sl) l = z at hA IX
  go_enter Try.func74, Try.ntmps74
  go_wp2_with fail
  refine IX.out.mono ?_
  rintro e w' ⟨rfl, hb2⟩
  go_wp2_with fail
  go_ret
  refine ⟨?_, hb2⟩
  rw [← hA.out]
  rfl
theorem Over_c (g base : Nat) (so sl : Int) (L : List Wr) (S : Nat → Prop) (w : World) (h : QAt w g base L S) :
    Calls Try.prog 28 #[.pointer (some ⟨g, 0, none⟩), .agg #[.int .i64 so, .int .i64 sl]] w fun e w' => e = .returned (.bool (overN so sl L)) ∧ Below w.heap.size w w' := by
  have hbl : Below w.heap.size w (w.alloc (.cells #[.int .i64 so, .int .i64 sl] 27)) := bl_all (Below.refl _ _) _
  have SP := Lib.hid (Spans_c g base L S _ (rw_below h hbl))
  have hn : (L.map spanOf).length ≤ 100000 := by rw [List.length_map]; exact (rw_lt h).2.2
  have HM := Lib.hid (over_map so sl L)
  have hmf : ∀ (fn : Fn) (first cap : Array Value) (w : World), (Instr.makeFunc fn first cap).run Try.prog w = .ok (.func fn first cap) w := fun _ _ _ _ => rfl
  have hbox := new_at w (.cells #[.int .i64 so, .int .i64 sl] 27)
  have HBX := Lib.hid hbox
  clear h hbox hbl
  generalize overN so sl L = r at HM ⊢
  generalize L.map spanOf = M at SP HM hn
  go_enter Try.func28, Try.ntmps28
  go_wp2_with fail
  refine SP.out.mono ?_
  rintro e w1 ⟨v, rfl, hR, hb1⟩
  obtain ⟨A1, c1, rfl, _, hC1⟩ := Kd.R_reads hR
  have hbx := keep_at_all HBX.out hb1
  have CT := Lib.hid (contains74 w.heap.size so sl A1 c1 M w1 hC1 hn (blk_cell hbx 0) (blk_cell hbx 1) (lt_at hbx))
  rw [HM.out] at CT
  have HB1 := Lib.hid hb1
  clear hR hC1 hbx hb1
  go_wp2_with fail
  refine CT.out.mono ?_
  rintro e w2 ⟨rfl, hb2⟩
  go_wp2_with fail
  go_ret
  exact ⟨rfl, bl_to (bl_to (bl_all (Below.refl _ _) _) HB1.out (by simp)) hb2 (by have := HB1.out.size; simp at this; omega)⟩
set_option maxRecDepth 10000 in
theorem ROver_c (g base : Nat) (so sl : Int) (L : List Wr) (S : Nat → Prop) (w : World) (h : RQAt w g base L S) :
    Calls Try.prog 29 #[.pointer (some ⟨g, 0, none⟩), .agg #[.int .i64 so, .int .i64 sl]] w fun e w' => e = .returned (.bool (overN so sl L)) ∧ Below w.heap.size w w' := by
  obtain ⟨A, c, c1, hc, hC, _⟩ := rq_cells h
  have hn := (rw_lt h).2.2
  have hgl := (rw_lt h).2.1
  have HC := Lib.hid hC
  have hu := Try.underlying62
  have hu2 := Try.underlying27
  clear h hC
  have OV := Lib.hid (fun (y : Wr) u => twainref04_Overlap.calls 5 y.off y.len so sl _ u (ref_overlap_p y.off y.len so sl 5 (by omega)))
  have hbox := new_at w (.cells #[.int .i64 so, .int .i64 sl] 27)
  have HBX := Lib.hid hbox
  clear hbox
  go_enter Try.func29, Try.ntmps29
  go_wp2_with fail
  go_loopw [12] (fun i wr => ∃ (k : Nat), k ≤ L.length ∧ i = .int .i64 k ∧ Below (w.heap.size + 1) (w.alloc (.cells #[.int .i64 so, .int .i64 sl] 27)) wr ∧ overN so sl L = overN so sl (L.drop k)) (fun i _ => L.length - (intOf i).toNat)
  case atStart => exact ⟨0, Nat.zero_le _, rfl, Below.refl _ _, rfl⟩
  case round =>
    obtain ⟨k, hk, rfl, hB, ho⟩ := hrel
    have HBL := Lib.hid hB
    have HO := Lib.hid ho
    have hws := hB.size
    rw [World.size_alloc] at hws
    have hb1 : Below w.heap.size w wr := (bl_all (Below.refl _ w) _).trans (hB.mono (by omega))
    have hbx := keep_at_below HBX.out hB (by omega)
    have q0 : wr.cell? ⟨w.heap.size, 0, none⟩ = some (.int .i64 so) := blk_cell hbx 0
    have q1 : wr.cell? ⟨w.heap.size, 1, none⟩ = some (.int .i64 sl) := blk_cell hbx 1
    have qa0 : ∀ o, (wr.alloc o).cell? ⟨w.heap.size, 0, none⟩ = some (.int .i64 so) := fun o => blk_cell (old_at hbx o) 0
    have qa1 : ∀ o, (wr.alloc o).cell? ⟨w.heap.size, 1, none⟩ = some (.int .i64 sl) := fun o => blk_cell (old_at hbx o) 1
    have HB1 := Lib.hid hb1
    clear hB ho hbx hb1
    by_cases hlt : k < L.length
    · have hlt' : (k : Int) < (L.length : Int) := by omega
      obtain ⟨ad, D, cd, rfl, x0, x1, x2, x3, _, _⟩ := at_KW (Kd.C_below HC.out HB1.out) k hlt
      have hd : overN so sl (L.drop k) = (meetB L[k].off L[k].len so sl || overN so sl (L.drop (k + 1))) := by
        unfold overN
        rw [List.drop_eq_getElem_cons hlt, List.any_cons]
      have HD := Lib.hid hd
      have OV1 := Lib.hid (OV.out L[k])
      clear hd
      generalize L[k].off = yo at x1 HD OV1
      generalize L[k].len = yl at x2 HD OV1
      generalize L[k].id = yi at x0
      generalize L[k].data.length = yd at x3
      generalize meetB yo yl so sl = b at HD OV1
      cases b with
      | true =>
        go_wp2_with fail
        refine (OV1.out _).mono ?_
        rintro e w' ⟨rfl, hb2⟩
        go_wp2_with fail
        go_ret
        refine ⟨?_, ?_⟩
        · rw [HO.out, HD.out, Bool.true_or]; rfl
        exact bl_to (bl_all HB1.out _) hb2 (by simp; omega)
      | false =>
        go_wp2_with fail
        refine (OV1.out _).mono ?_
        rintro e w' ⟨rfl, hb2⟩
        go_wp2_with fail
        refine ⟨⟨k + 1, by omega, by go_num, bl_to (HBL.out.alloc (by omega) _) hb2 (by simp; omega), by rw [HO.out, HD.out, Bool.false_or]⟩, by simp [intOf]; omega⟩
    · have hlt' : ¬ (k : Int) < (L.length : Int) := by omega
      have hfin : overN so sl L = false := by rw [HO.out, List.drop_eq_nil_of_le (by omega)]; rfl
      have HF := Lib.hid hfin
      clear hfin
      go_wp2_with fail
      go_ret
      refine ⟨?_, HB1.out⟩
      rw [HF.out]
      rfl
end Go.Proofs.Ytoobbolaoldacaa.LaterW
