/-
  The statements of layer 16 as plain facts.
-/
import Derived.Test.YteclkapffhjddaaWaitSP
import Derived.Test.YteclkapffhjddaaWaitx3
namespace Go.Proofs.Yteclkapffhjddaa.WaitPure
open Go.RowKit Go.Proofs.Yteclkapffhjddaa.Wait Go.Proofs.Yteclkapffhjddaa.WaitSP Go.Proofs.YteclkapffhjddaaW.PrintWords Go.Proofs.YteclkapffhjddaaW.PrintMore
theorem add_one (i : Int) (h0 : -2 ≤ i) (h1 : i < 1000000) : wrap64 (i + 1) = i + 1 := by unfold wrap64; omega
theorem ov_eq (a b : S55) : mayOv a b = meetB b.f0 b.f1 a.f0 a.f1 := by
  unfold mayOv; rw [overlap_p, meetB_turn]; rfl
def conv (x : S76) : S57 := ⟨x.f0, x.f1, ⟨x.f2.f0, x.f2.f1⟩⟩
theorem rd_at76 (l : List S76) (i : Nat) (h : i < l.length) : rd_T76 l (i : Int) = l[i] := by
  unfold rd_T76
  rw [Int.toNat_natCast, List.getD_eq_getElem?_getD, List.getElem?_eq_getElem h]
  rfl
theorem rd_at55 (l : List S55) (i : Nat) (h : i < l.length) : rd_T55 l (i : Int) = l[i] := by
  unfold rd_T55
  rw [Int.toNat_natCast, List.getD_eq_getElem?_getD, List.getElem?_eq_getElem h]
  rfl
theorem rd_at57 (l : List S57) (i : Nat) (h : i < l.length) : rd_T57 l (i : Int) = l[i] := by
  unfold rd_T57
  rw [Int.toNat_natCast, List.getD_eq_getElem?_getD, List.getElem?_eq_getElem h]
  rfl
theorem items_loop (l : List S76) (hl : l.length ≤ 100) : ∀ (d i k : Nat), i + d = l.length → d < k → twainlaw16_Items.l0 k ((l.take i).map conv) l (l.length : Int) (i : Int) = some (l.map conv) := by
  intro d
  induction d with
  | zero =>
    intro i k hi hk
    obtain ⟨k, rfl⟩ : ∃ j, k = j + 1 := ⟨k - 1, by omega⟩
    simp only [twainlaw16_Items.l0]
    rw [if_neg (by omega), List.take_of_length_le (by omega)]
  | succ d ih =>
    intro i k hi hk
    obtain ⟨k, rfl⟩ : ∃ j, k = j + 1 := ⟨k - 1, by omega⟩
    simp only [twainlaw16_Items.l0]
    have hil : i < l.length := by omega
    rw [if_pos (by omega), if_pos (by omega), if_pos (by omega), if_pos (by simp; omega), rd_at76 l i hil, WaitPure.add_one _ (by omega) (by omega), show (i : Int) + 1 = ((i + 1 : Nat) : Int) by omega]
    have := ih (i + 1) k (by omega) (by omega)
    rw [List.take_add_one, List.getElem?_eq_getElem hil, List.map_append] at this
    exact this
theorem items_p (l : List S76) (hl : l.length ≤ 100) (k : Nat) (hk : 100 < k) : twainlaw16_Items.f k l = some (l.map conv) := by
  have := items_loop l hl l.length 0 k (by omega) (by omega)
  exact this
theorem ref2 (l : List S55) (t kd o n : Int) (hl : l.length ≤ 40) : ∀ (d i k : Nat), i + d = l.length → d + 5 < k →
    twainref16_May.l2 k l (l.length : Int) (i : Int) t kd o n = some (!(kd == 1 && (l.drop i).any (fun s => meetB s.f0 s.f1 o n))) := by
  intro d
  induction d with
  | zero =>
    intro i k hi hk
    obtain ⟨k, rfl⟩ : ∃ j, k = j + 1 := ⟨k - 1, by omega⟩
    simp only [twainref16_May.l2]
    rw [if_neg (by omega), show l.drop i = [] from List.drop_eq_nil_of_le (by omega)]
    simp
  | succ d ih =>
    intro i k hi hk
    obtain ⟨k, rfl⟩ : ∃ j, k = j + 1 := ⟨k - 1, by omega⟩
    simp only [twainref16_May.l2]
    have hil : i < l.length := by omega
    rw [if_pos (by omega), if_pos (by omega), if_pos (by omega), rd_at55 l i hil, WaitPure.add_one _ (by omega) (by omega), show (i : Int) + 1 = ((i + 1 : Nat) : Int) by omega, ref_overlap_p _ _ _ _ k (by omega), Option.bind_some, ih (i + 1) k (by omega) (by omega), List.drop_eq_getElem_cons hil, List.any_cons]
    by_cases h : kd = 1
    · rw [if_pos h, show (kd == 1) = true by simpa using h]
      cases meetB l[i].f0 l[i].f1 o n <;> simp
    · rw [if_neg h, show (kd == 1) = false by simpa using h]
      simp
def fly (t kd o n : Int) (y : S76) : Bool := if kd = 2 then decide (y.f0 < t) else meetB y.f2.f0 y.f2.f1 o n
theorem ref1 (s : List S55) (l : List S76) (t kd o n : Int) (hs : s.length ≤ 40) (hl : l.length ≤ 40) : ∀ (d i k : Nat), i + d = l.length → d + 60 < k →
    twainref16_May.l1 k s l (l.length : Int) (i : Int) t kd o n = some (!(l.drop i).any (fly t kd o n) && !(kd == 1 && s.any (fun s => meetB s.f0 s.f1 o n))) := by
  intro d
  induction d with
  | zero =>
    intro i k hi hk
    obtain ⟨k, rfl⟩ : ∃ j, k = j + 1 := ⟨k - 1, by omega⟩
    simp only [twainref16_May.l1]
    have := ref2 s t kd o n hs s.length 0 k (by omega) (by omega)
    rw [if_neg (by omega), show l.drop i = [] from List.drop_eq_nil_of_le (by omega)]
    refine Eq.trans this ?_
    rw [List.drop_zero, List.any_nil, Bool.not_false, Bool.true_and]
  | succ d ih =>
    intro i k hi hk
    obtain ⟨k, rfl⟩ : ∃ j, k = j + 1 := ⟨k - 1, by omega⟩
    simp only [twainref16_May.l1]
    have hil : i < l.length := by omega
    rw [if_pos (by omega), if_pos (by omega), if_pos (by omega), rd_at76 l i hil, WaitPure.add_one _ (by omega) (by omega), show (i : Int) + 1 = ((i + 1 : Nat) : Int) by omega, ref_overlap_p _ _ _ _ k (by omega), Option.bind_some, ih (i + 1) k (by omega) (by omega), List.drop_eq_getElem_cons hil, List.any_cons]
    by_cases h : kd = 2
    · rw [if_pos h, show fly t kd o n l[i] = decide (l[i].f0 < t) by unfold fly; rw [if_pos h]]
      by_cases h2 : l[i].f0 < t <;> simp [h2]
    · rw [if_neg h, show fly t kd o n l[i] = meetB l[i].f2.f0 l[i].f2.f1 o n by unfold fly; rw [if_neg h]]
      cases meetB l[i].f2.f0 l[i].f2.f1 o n <;> simp
def ahd (kd o n : Int) (y : S76) : Bool := y.f1 == 1 && (kd == 2 || meetB y.f2.f0 y.f2.f1 o n)
theorem ref0 (l f : List S76) (s : List S55) (m : Nat) (t kd o n : Int) (hs : s.length ≤ 40) (hf : f.length ≤ 40) (hm : m ≤ l.length) (hl : l.length ≤ 40) : ∀ (d i k : Nat), i + d = m → d + 120 < k →
    twainref16_May.l0 k l (m : Int) f s (i : Int) t kd o n = some (!((l.take m).drop i).any (ahd kd o n) && (!f.any (fly t kd o n) && !(kd == 1 && s.any (fun s => meetB s.f0 s.f1 o n)))) := by
  intro d
  induction d with
  | zero =>
    intro i k hi hk
    obtain ⟨k, rfl⟩ : ∃ j, k = j + 1 := ⟨k - 1, by omega⟩
    simp only [twainref16_May.l0]
    have := ref1 s f t kd o n hs hf f.length 0 k (by omega) (by omega)
    rw [if_neg (by omega), show (l.take m).drop i = [] from List.drop_eq_nil_of_le (by rw [List.length_take]; omega)]
    refine Eq.trans this ?_
    rw [List.drop_zero, List.any_nil, Bool.not_false, Bool.true_and]
  | succ d ih =>
    intro i k hi hk
    obtain ⟨k, rfl⟩ : ∃ j, k = j + 1 := ⟨k - 1, by omega⟩
    simp only [twainref16_May.l0]
    have hil : i < l.length := by omega
    have him : i < (l.take m).length := by rw [List.length_take]; omega
    rw [if_pos (by omega), if_pos (by omega), if_pos (by omega), rd_at76 l i hil, WaitPure.add_one _ (by omega) (by omega), show (i : Int) + 1 = ((i + 1 : Nat) : Int) by omega, ref_overlap_p _ _ _ _ k (by omega), Option.bind_some, ih (i + 1) k (by omega) (by omega), List.drop_eq_getElem_cons him, List.any_cons, List.getElem_take]
    by_cases h1 : l[i].f1 = 1
    · rw [if_pos h1]
      by_cases h : kd = 2
      · rw [if_pos h, show ahd kd o n l[i] = true by unfold ahd; simp [h1, h]]
        simp
      · rw [if_neg h, show ahd kd o n l[i] = meetB l[i].f2.f0 l[i].f2.f1 o n by unfold ahd; simp [h1, h]]
        cases meetB l[i].f2.f0 l[i].f2.f1 o n <;> simp
    · rw [if_neg h1, show ahd kd o n l[i] = false by unfold ahd; simp [h1]]
      simp
def mayB (l f : List S76) (s : List S55) (i : Int) : Bool := if i < 0 ∨ (l.length : Int) ≤ i then false else match (l.map conv)[i.toNat]? with | none => false | some x => mayIn (l.map conv) i.toNat (f.map conv) s x
theorem may_p (l f : List S76) (s : List S55) (i : Int) : wait_May.f (l.map conv) i (f.map conv) s = some (mayB l f s i) := by
  unfold wait_May.f mayB
  rw [List.length_map]
  rfl
theorem any_fl2 (f : List S76) (t o n : Int) : f.any (fly t 2 o n) = (f.map conv).any (fun y => decide (y.f0 < t)) := by
  rw [List.any_map]; rfl
theorem ref_may_p (l f : List S76) (s : List S55) (i : Int) (hl : l.length ≤ 40) (hf : f.length ≤ 40) (hs : s.length ≤ 40) (k : Nat) (hk : 200 ≤ k) : twainref16_May.f k l i f s = some (mayB l f s i) := by
  obtain ⟨k, rfl⟩ : ∃ j, k = j + 1 := ⟨k - 1, by omega⟩
  have jt : ∀ i, twainref16_May.j0 (k + 1) l i f s true = some false := fun i => by simp [twainref16_May.j0]
  unfold twainref16_May.f mayB
  by_cases h0 : i < 0
  · rw [if_pos h0, if_pos (Or.inl h0)]
    exact jt i
  · by_cases h1 : i ≥ (l.length : Int)
    · rw [if_neg h0, if_pos h1, if_pos (Or.inr h1)]
      exact jt i
    · obtain ⟨m, rfl⟩ := Int.eq_ofNat_of_zero_le (show 0 ≤ i by omega)
      have hm : m < l.length := by omega
      rw [if_neg h0, if_neg h1, if_pos (by omega), if_pos (by omega), if_neg (show ¬ ((m : Int) < 0 ∨ (l.length : Int) ≤ (m : Int)) by omega), rd_at76 l m hm, Int.toNat_natCast, List.getElem?_map, List.getElem?_eq_getElem hm]
      show _ = some (mayIn (l.map conv) m (f.map conv) s (conv l[m]))
      have hin : ∀ kd, kd = l[m].f1 → (kd = 0 ∨ kd = 1 ∨ kd = 2) → twainref16_May.j0 (k + 1) l (m : Int) f s false = some (mayIn (l.map conv) m (f.map conv) s (conv l[m])) := by
        intro kd hkd hc
        simp only [twainref16_May.j0]
        have h := ref0 l f s m l[m].f0 l[m].f1 l[m].f2.f0 l[m].f2.f1 hs hf (by omega) hl m 0 k (by omega) (by omega)
        rw [if_neg (by simp), if_pos (by omega), if_pos (by omega), rd_at76 l m hm]
        refine Eq.trans h ?_
        unfold mayIn
        simp only [conv, ← List.map_take, List.any_map, Function.comp_def, ov_eq, List.drop_zero]
        rw [← hkd]
        unfold ahd fly
        rcases hc with rfl | rfl | rfl
        · simp
        · simp [Bool.and_assoc]
        · simp; rfl
      by_cases hn : l[m].f1 < 0
      · rw [if_pos hn, jt]
        unfold mayIn conv
        simp only
        rw [if_neg (by omega), if_neg (by omega), if_neg (by omega)]
      · rw [if_neg hn]
        by_cases h2 : l[m].f1 > 2
        · rw [show decide (l[m].f1 > 2) = true by simpa using h2, jt]
          unfold mayIn conv
          simp only
          rw [if_neg (by omega), if_neg (by omega), if_neg (by omega)]
        · rw [show decide (l[m].f1 > 2) = false by simpa using h2]
          exact hin _ rfl (by omega)
theorem lives_p : twainlaw16_lives.f = some true := by decide +kernel
end Go.Proofs.Yteclkapffhjddaa.WaitPure
