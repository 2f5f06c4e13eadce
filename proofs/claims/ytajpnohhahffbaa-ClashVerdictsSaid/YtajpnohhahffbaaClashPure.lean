/-
  The statements of layer 23 as plain facts.
-/
import Derived.Test.YtajpnohhahffbaaClashSP
import Derived.Test.YtajpnohhahffbaaClashx5
import Derived.Test.YtajpnohhahffbaaClashx6
namespace Go.Proofs.Ytajpnohhahffbaa.ClashPure
open Go.RowKit Go.Proofs.Ytajpnohhahffbaa.Clash Go.Proofs.Ytajpnohhahffbaa.ClashSP Go.Proofs.YtajpnohhahffbaaW.PrintWords Go.Proofs.YtajpnohhahffbaaW.PrintMore
theorem add_one (i : Int) (h0 : 0 ≤ i) (h1 : i < 1000000) : wrap64 (i + 1) = i + 1 := by unfold wrap64; omega
theorem clMeets_eq (so sl o n : Int) (b : Bool) : clMeets so sl o n b = meetB o n so sl := by
  unfold clMeets; rw [overlap_p]; rfl
theorem clHolds_eq (so sl o n : Int) (b : Bool) : clHolds so sl o n b = (meetB o n so sl && ((meetN o n so sl).1 == so && (meetN o n so sl).2.1 == sl)) := by
  unfold clHolds; rw [holds_p]; rfl
def conv (x : S91) : S41 := ⟨⟨x.f0.f0, x.f0.f1⟩, x.f1⟩
theorem rd_at91 (l : List S91) (i : Nat) (h : i < l.length) : rd_T91 l (i : Int) = l[i] := by
  unfold rd_T91
  rw [Int.toNat_natCast, List.getD_eq_getElem?_getD, List.getElem?_eq_getElem h]
  rfl
theorem owns_loop (l : List S91) (hl : l.length ≤ 100) : ∀ (d i k : Nat), i + d = l.length → d < k → twainlaw23_Owns.l0 k ((l.take i).map conv) l (l.length : Int) (i : Int) = some (l.map conv) := by
  intro d
  induction d with
  | zero =>
    intro i k hi hk
    obtain ⟨k, rfl⟩ : ∃ j, k = j + 1 := ⟨k - 1, by omega⟩
    simp only [twainlaw23_Owns.l0]
    rw [if_neg (by omega), List.take_of_length_le (by omega)]
  | succ d ih =>
    intro i k hi hk
    obtain ⟨k, rfl⟩ : ∃ j, k = j + 1 := ⟨k - 1, by omega⟩
    simp only [twainlaw23_Owns.l0]
    have hil : i < l.length := by omega
    rw [if_pos (by omega), if_pos (by omega), if_pos (by omega), if_pos (by simp; omega), rd_at91 l i hil, add_one _ (by omega) (by omega), show (i : Int) + 1 = ((i + 1 : Nat) : Int) by omega]
    have := ih (i + 1) k (by omega) (by omega)
    rw [List.take_add_one, List.getElem?_eq_getElem hil, List.map_append] at this
    exact this
theorem owns_p (l : List S91) (hl : l.length ≤ 100) (k : Nat) (hk : 100 < k) : twainlaw23_Owns.f k l = some (l.map conv) := by
  have := owns_loop l hl l.length 0 k (by omega) (by omega)
  exact this
def vN (a : Bool) (so sl : Int) (l : List S91) : Int :=
  if a then (if l.any (fun x => clHolds so sl x.f0.f0 x.f0.f1 x.f1) then 1 else if l.any (fun x => clMeets so sl x.f0.f0 x.f0.f1 x.f1) then 2 else 0) else if l.any (fun x => clBlocks so sl x.f0.f0 x.f0.f1 x.f1) then 3 else 0
theorem verdict_p (a : Bool) (so sl : Int) (l : List S91) : clash_Verdict.f a (l.map conv) so sl = some (vN a so sl l) := by
  unfold clash_Verdict.f vN
  simp only [List.any_map]
  rfl
theorem ref_holds (so sl o n : Int) (b : Bool) (k : Nat) (hk : 2 ≤ k) : twainref04_Holds.f k o n so sl = some (clHolds so sl o n b) := by
  rw [ref_holds_p _ _ _ _ k hk, clHolds_eq]
theorem ref_meets (so sl o n : Int) (b : Bool) (k : Nat) (hk : 2 ≤ k) : twainref04_Overlap.f k o n so sl = some (clMeets so sl o n b) := by
  rw [ref_overlap_p _ _ _ _ k hk, clMeets_eq]
theorem ref_arb (so sl : Int) (l : List S91) (hl : l.length ≤ 100) : ∀ (d i k : Nat) (x7 : Bool), i + d = l.length → d + 5 < k →
    twainref23_Verdict.l0 k true x7 l (l.length : Int) (i : Int) so sl = some (if (l.drop i).any (fun x => clHolds so sl x.f0.f0 x.f0.f1 x.f1) then 1 else if x7 || (l.drop i).any (fun x => clMeets so sl x.f0.f0 x.f0.f1 x.f1) then 2 else 0) := by
  intro d
  induction d with
  | zero =>
    intro i k x7 hi hk
    obtain ⟨k, rfl⟩ : ∃ j, k = j + 1 := ⟨k - 1, by omega⟩
    simp only [twainref23_Verdict.l0]
    rw [if_neg (by omega), show l.drop i = [] from List.drop_eq_nil_of_le (by omega)]
    cases x7 <;> rfl
  | succ d ih =>
    intro i k x7 hi hk
    obtain ⟨k, rfl⟩ : ∃ j, k = j + 1 := ⟨k - 1, by omega⟩
    simp only [twainref23_Verdict.l0]
    have hil : i < l.length := by omega
    rw [if_pos (by omega), if_pos (by omega), if_pos (by omega), rd_at91 l i hil, add_one _ (by omega) (by omega), show (i : Int) + 1 = ((i + 1 : Nat) : Int) by omega, ref_holds _ _ _ _ (l[i]).f1 k (by omega), Option.bind_some, ref_meets _ _ _ _ (l[i]).f1 k (by omega), Option.bind_some, ih (i + 1) k _ (by omega) (by omega), ih (i + 1) k _ (by omega) (by omega), List.drop_eq_getElem_cons hil, List.any_cons, List.any_cons]
    cases clHolds so sl l[i].f0.f0 l[i].f0.f1 l[i].f1 <;> cases x7 <;> cases clMeets so sl l[i].f0.f0 l[i].f0.f1 l[i].f1 <;> simp
theorem ref_not (so sl : Int) (l : List S91) (hl : l.length ≤ 100) : ∀ (d i k : Nat) (x7 : Bool), i + d = l.length → d + 5 < k →
    twainref23_Verdict.l0 k false x7 l (l.length : Int) (i : Int) so sl = some (if x7 || (l.drop i).any (fun x => clBlocks so sl x.f0.f0 x.f0.f1 x.f1) then 3 else 0) := by
  intro d
  induction d with
  | zero =>
    intro i k x7 hi hk
    obtain ⟨k, rfl⟩ : ∃ j, k = j + 1 := ⟨k - 1, by omega⟩
    simp only [twainref23_Verdict.l0]
    rw [if_neg (by omega), show l.drop i = [] from List.drop_eq_nil_of_le (by omega)]
    cases x7 <;> rfl
  | succ d ih =>
    intro i k x7 hi hk
    obtain ⟨k, rfl⟩ : ∃ j, k = j + 1 := ⟨k - 1, by omega⟩
    simp only [twainref23_Verdict.l0]
    have hil : i < l.length := by omega
    rw [if_pos (by omega), if_pos (by omega), if_pos (by omega), rd_at91 l i hil, add_one _ (by omega) (by omega), show (i : Int) + 1 = ((i + 1 : Nat) : Int) by omega, ref_meets _ _ _ _ (l[i]).f1 k (by omega), Option.bind_some, ih (i + 1) k _ (by omega) (by omega), ih (i + 1) k _ (by omega) (by omega), ih (i + 1) k _ (by omega) (by omega), List.drop_eq_getElem_cons hil, List.any_cons]
    unfold clBlocks
    cases l[i].f1 <;> cases x7 <;> cases clMeets so sl l[i].f0.f0 l[i].f0.f1 _ <;> simp
theorem ref_verdict_p (a : Bool) (so sl : Int) (l : List S91) (hl : l.length ≤ 100) (k : Nat) (hk : 110 < k) : twainref23_Verdict.f k a l so sl = some (vN a so sl l) := by
  unfold twainref23_Verdict.f vN
  cases a
  · have := ref_not so sl l hl l.length 0 k false (by omega) (by omega)
    simpa using this
  · have := ref_arb so sl l hl l.length 0 k false (by omega) (by omega)
    simpa using this
theorem lives_p : twainlaw23_lives.f = some true := by decide +kernel
theorem name_p (n : Int) : ∃ a b, clash_Name.f n = some a ∧ twainref23_Name.f n = some b ∧ a.toList = b.toList := by
  by_cases h0 : n < 0
  · refine ⟨⟨#[117, 110, 107, 110, 111, 119, 110]⟩, ⟨#[117, 110, 107, 110, 111, 119, 110]⟩, ?_, ?_, rfl⟩
    rotate_left
    · unfold twainref23_Name.f
      rw [Option.bind_some, if_pos h0]
    · unfold clash_Name.f
      rw [if_neg (by omega), if_neg (by omega), if_neg (by omega), if_neg (by omega)]
  · by_cases h3 : n > 3
    · refine ⟨⟨#[117, 110, 107, 110, 111, 119, 110]⟩, ⟨#[117, 110, 107, 110, 111, 119, 110]⟩, ?_, ?_, rfl⟩
      rotate_left
      · unfold twainref23_Name.f
        rw [Option.bind_some, if_neg h0, if_pos h3]
      · unfold clash_Name.f
        rw [if_neg (by omega), if_neg (by omega), if_neg (by omega), if_neg (by omega)]
    · have : n = 0 ∨ n = 1 ∨ n = 2 ∨ n = 3 := by omega
      rcases this with rfl | rfl | rfl | rfl
      all_goals exact ⟨_, _, rfl, rfl, rfl⟩
theorem ClashVerdicts (l : List S91) (so sl n : Int) : twainlaw23_ClashVerdicts.f 300 l so sl n = some true := by
  unfold twainlaw23_ClashVerdicts.f
  rw [lives_p, Option.bind_some]
  by_cases h : (l.length : Int) > 100
  · rw [if_pos h]
  · rw [if_neg h]
    obtain ⟨a, b, ha, hb, hab⟩ := name_p n
    rw [owns_p l (by omega) 300 (by omega), Option.bind_some, verdict_p, Option.bind_some, ref_verdict_p true _ _ l (by omega) 300 (by omega), Option.bind_some, if_pos rfl, verdict_p, Option.bind_some, ref_verdict_p false _ _ l (by omega) 300 (by omega), Option.bind_some, if_pos rfl, ha, Option.bind_some, hb, Option.bind_some, if_pos hab]
theorem holds_meets {so sl o n : Int} {b : Bool} (h : clHolds so sl o n b = true) : clMeets so sl o n b = true := by
  rw [clHolds_eq, Bool.and_eq_true] at h
  rw [clMeets_eq]
  exact h.1
theorem ClashSides (ao al bo bl : Int) (l : List S91) : twainlaw23_ClashSides.f 300 ao al bo bl l = some true := by
  unfold twainlaw23_ClashSides.f
  simp only [lives_p, Option.bind_some]
  by_cases h : (l.length : Int) > 50
  · rw [if_pos h]
  · rw [if_neg h, owns_p l (by omega) 300 (by omega), Option.bind_some, Option.bind_some, if_pos (by simp; omega)]
    have hm : ∃ m, clash_Verdict.f false (l.map conv ++ [⟨⟨bo, bl⟩, true⟩]) ao al = some m ∧ (m = 0 ∨ m = 3) ∧ (clMeets bo bl ao al false = true → m = 3) := by
      refine ⟨_, rfl, ?_, ?_⟩
      · simp only [Bool.false_eq_true, if_false]
        split
        · exact Or.inr rfl
        · exact Or.inl rfl
      · intro h1
        have h2 : clBlocks ao al bo bl true = true := by
          unfold clBlocks
          rw [clMeets_eq] at h1 ⊢
          rw [meetB_turn, h1]
          rfl
        simp only [Bool.false_eq_true, if_false]
        rw [if_pos (by rw [List.any_append]; simp [h2])]
    have ht : ∃ t, clash_Verdict.f true (l.map conv ++ [⟨⟨ao, al⟩, true⟩]) bo bl = some t ∧ (t == 3) = false ∧ (clMeets bo bl ao al false = true → t ≠ 0) := by
      refine ⟨_, rfl, ?_, ?_⟩
      · simp only [if_true]
        split
        · rfl
        · split <;> rfl
      · intro h1
        have h2 : clMeets bo bl ao al true = true := by rw [clMeets_eq] at h1 ⊢; exact h1
        simp only [if_true]
        split
        · decide
        · rw [if_pos (by rw [List.any_append]; simp [h2])]
          decide
    have ha : ∃ q, clash_Verdict.f true [⟨⟨ao, al⟩, false⟩] bo bl = some q ∧ (q ≠ 0 → clMeets bo bl ao al false = true) := by
      refine ⟨_, rfl, ?_⟩
      intro h1
      simp only [if_true, List.any_cons, List.any_nil, Bool.or_false] at h1
      by_cases hh : clHolds bo bl ao al false = true
      · exact holds_meets hh
      · rw [if_neg hh] at h1
        by_cases hc : clMeets bo bl ao al false = true
        · exact hc
        · rw [if_neg hc] at h1
          exact absurd rfl h1
    obtain ⟨m, e1, m1, m2⟩ := hm
    obtain ⟨t, e2, t1, t2⟩ := ht
    obtain ⟨q, e3, q1⟩ := ha
    have j : twainlaw23_ClashSides.j0 300 m t (t == 3) ao al bo bl = some true := by
      simp only [twainlaw23_ClashSides.j0, t1, lives_p, Option.bind_some, e3]
      rw [if_neg (by simp)]
      by_cases hq : q = 0
      · rw [if_pos hq]
      · rw [if_neg hq, if_pos (m2 (q1 hq)), if_neg (t2 (q1 hq))]
    rw [e1, Option.bind_some, if_pos (by simp; omega), e2, Option.bind_some]
    rcases m1 with rfl | rfl
    · rw [if_pos rfl]; exact j
    · rw [if_neg (by decide), if_pos rfl]; exact j
end Go.Proofs.Ytajpnohhahffbaa.ClashPure
