/-
  The statements of layer 28 as plain facts.
-/
import Derived.Test.YtajpnohhahffbaaRequestSP
import Derived.Test.YtajpnohhahffbaaRequestx6
namespace Go.Proofs.Ytajpnohhahffbaa.RequestPure
open Go.RowKit Go.Proofs.Ytajpnohhahffbaa.Request Go.Proofs.Ytajpnohhahffbaa.RequestBP Go.Proofs.Ytajpnohhahffbaa.RequestSP Go.Proofs.Ytajpnohhahffbaa.BitsPlain Go.Proofs.YtajpnohhahffbaaW.PrintWords Go.Proofs.YtajpnohhahffbaaW.PrintMore
theorem lives_p : twainlaw28_lives.f = some true := by decide +kernel
theorem ref_good28 (a b c d e : Int) : twainref28_Good.f a b c d e = some (reqGood a b c d e) := by
  unfold twainref28_Good.f reqGood
  by_cases h1 : 4 ≤ a
  · by_cases h2 : a ≤ 256
    · by_cases h3 : a.tmod 4 = 0
      · by_cases h4 : 3 ≤ b
        · by_cases h5 : b ≤ 16
          · by_cases h6 : 1 ≤ c
            · by_cases h7 : c ≤ 16
              · by_cases h8 : 1 ≤ d
                · by_cases h9 : d ≤ 64
                  · by_cases h10 : 2 ≤ e
                    · simp [h1, h2, h3, h4, h5, h6, h7, h8, h9, h10]
                    · simp [h10]
                  · simp [h9]
                · simp [h8]
              · simp [h7]
            · simp [h6]
          · simp [h5]
        · simp [h4]
      · simp [h3]
    · simp [h2]
  · simp [h1]
def checkN (s kd o l : Int) (n : Nat) : Int :=
  if kd = 0 then (if goodB o l s = true ∧ l ≤ 8 ∧ n = 0 then 0 else 5)
  else if kd = 1 then (if goodB o l s = true ∧ l ≤ 8 ∧ (n : Int) = 16 * l then 0 else 5)
  else if kd = 2 then (if o = 0 ∧ l = 0 ∧ n = 0 then 0 else 5)
  else 5
theorem good_l {o l s : Int} (h : goodB o l s = true) : 0 ≤ o ∧ o ≤ 1073741824 ∧ 0 < l ∧ l ≤ 1073741824 ∧ o + l ≤ s := by
  unfold goodB at h
  simp only [Bool.and_eq_true, decide_eq_true_eq] at h
  obtain ⟨⟨a, b⟩, c⟩ := h
  rw [pl_iff] at a
  omega
theorem check_p (s b c d e kd o l : Int) (x : List Int) : request_Check.f s b c d e kd o l x = some (checkN s kd o l x.length) := by
  unfold request_Check.f checkN
  rw [good_p]
  simp only [Option.bind_some]
  by_cases h1 : kd = 1
  · subst h1
    rw [if_pos rfl, if_neg (show ¬ ((1 : Int) = 0) by decide), if_pos rfl]
    by_cases hg : goodB o l s = true
    · have hl := good_l hg
      rw [hg]
      by_cases h8 : l ≤ 8
      · rw [if_pos h8, if_pos rfl, if_neg (by omega), show wrap64 (l * 16) = 16 * l by unfold wrap64; omega]
        by_cases hn : (x.length : Int) = 16 * l
        · rw [if_pos hn, if_pos ⟨rfl, h8, hn⟩]
        · rw [if_neg hn, if_neg (fun h => hn h.2.2)]
      · rw [if_neg h8, if_pos rfl, if_pos (by omega), if_neg (fun h => h8 h.2.1)]
    · simp [hg]
  · rw [if_neg h1]
    by_cases h0 : kd = 0
    · subst h0
      rw [if_pos rfl, if_pos rfl]
      by_cases hg : goodB o l s = true
      · rw [hg, if_pos rfl]
        by_cases h8 : l ≤ 8
        · rw [if_neg (by omega)]
          by_cases hn : (x.length : Int) = 0
          · rw [if_pos hn, if_pos ⟨rfl, h8, by omega⟩]
          · rw [if_neg hn, if_neg (fun h => hn (by omega))]
        · rw [if_pos (by omega), if_neg (fun h => h8 h.2.1)]
      · rw [if_neg hg, if_neg (fun h => hg h.1)]
    · rw [if_neg h0, if_neg h0, if_neg h1]
      by_cases h2 : kd = 2
      · subst h2
        rw [if_pos rfl, if_pos rfl]
        by_cases ho : o = 0 ∧ l = 0
        · obtain ⟨rfl, rfl⟩ := ho
          rw [if_neg (by decide)]
          by_cases hn : (x.length : Int) = 0
          · rw [if_pos hn, if_pos ⟨rfl, rfl, by omega⟩]
          · rw [if_neg hn, if_neg (fun h => hn (by omega))]
        · rw [if_pos (by simp; omega), if_neg (fun h => ho ⟨h.1, h.2.1⟩)]
      · rw [if_neg h2, if_neg h2]
theorem ref_check_p (s b c d e kd o l : Int) (x : List Int) : twainref28_Check.f s b c d e kd o l x = some (checkN s kd o l x.length) := by
  unfold twainref28_Check.f checkN
  rw [ref_good_p]
  simp only [Option.bind_some]
  by_cases h0 : kd = 0
  · subst h0
    rw [if_pos rfl, if_pos rfl]
    by_cases hg : goodB o l s = true
    · rw [hg, if_pos rfl]
      by_cases h8 : l ≤ 8
      · rw [if_pos h8]
        by_cases hn : (x.length : Int) = 0
        · rw [if_pos hn, if_pos ⟨rfl, h8, by omega⟩]
        · rw [if_neg hn, if_neg (fun h => hn (by omega))]
      · rw [if_neg h8, if_neg (fun h => h8 h.2.1)]
    · rw [if_neg hg, if_neg (fun h => hg h.1)]
  · rw [if_neg h0, if_neg h0]
    by_cases h1 : kd = 1
    · subst h1
      rw [if_pos rfl, if_pos rfl]
      by_cases hg : goodB o l s = true
      · have hl := good_l hg
        rw [hg, if_pos rfl]
        by_cases h8 : l ≤ 8
        · rw [if_pos h8, show wrap64 (16 * l) = 16 * l by unfold wrap64; omega]
          by_cases hn : (x.length : Int) = 16 * l
          · rw [if_pos hn, if_pos ⟨rfl, h8, hn⟩]
          · rw [if_neg hn, if_neg (fun h => hn h.2.2)]
        · rw [if_neg h8, if_neg (fun h => h8 h.2.1)]
      · rw [if_neg hg, if_neg (fun h => hg h.1)]
    · rw [if_neg h1, if_neg h1]
      by_cases h2 : kd = 2
      · subst h2
        rw [if_pos rfl, if_pos rfl]
        by_cases ho : o = 0 ∧ l = 0
        · obtain ⟨rfl, rfl⟩ := ho
          rw [if_pos (by decide)]
          by_cases hn : (x.length : Int) = 0
          · rw [if_pos hn, if_pos ⟨rfl, rfl, by omega⟩]
          · rw [if_neg hn, if_neg (fun h => hn (by omega))]
        · rw [if_neg (by simp; omega), if_neg (fun h => ho ⟨h.1, h.2.1⟩)]
      · rw [if_neg h2, if_neg h2]
theorem name_p (n : Int) : ∃ a, request_Name.f n = some a ∧ twainref28_Name.f n = some a := by
  by_cases h0 : n < 0
  · refine ⟨⟨#[117, 110, 107, 110, 111, 119, 110]⟩, ?_, ?_⟩
    rotate_left
    · unfold twainref28_Name.f
      rw [Option.bind_some, if_pos h0]
    · unfold request_Name.f
      rw [if_neg (by omega), if_neg (by omega), if_neg (by omega)]
  · by_cases h3 : n > 2
    · refine ⟨⟨#[117, 110, 107, 110, 111, 119, 110]⟩, ?_, ?_⟩
      rotate_left
      · unfold twainref28_Name.f
        rw [Option.bind_some, if_neg h0, if_pos h3]
      · unfold request_Name.f
        rw [if_neg (by omega), if_neg (by omega), if_neg (by omega)]
    · have : n = 0 ∨ n = 1 ∨ n = 2 := by omega
      rcases this with rfl | rfl | rfl
      all_goals exact ⟨_, rfl, rfl⟩
def sameN (k0 o0 l0 : Int) (x : List Int) (k1 o1 l1 : Int) (y : List Int) : Bool := decide (k0 = k1) && ((o0 == o1 && l0 == l1) && (strOfNums x).toList == (strOfNums y).toList)
theorem same_p (k0 o0 l0 : Int) (x : List Int) (k1 o1 l1 : Int) (y : List Int) : request_Same.f k0 o0 l0 x k1 o1 l1 y = some (sameN k0 o0 l0 x k1 o1 l1 y) := by
  unfold request_Same.f sameN bytes_Equal.f
  simp only [Option.bind_some]
  by_cases h : k0 = k1
  · by_cases h2 : (o0 == o1 && (l0 == l1)) = true
    · simp [h, h2]
    · rw [if_pos h, if_neg h2, Bool.not_eq_true] at *
      simp [h2]
  · simp [h]
theorem ref_same_p (k0 o0 l0 : Int) (x : List Int) (k1 o1 l1 : Int) (y : List Int) : twainref28_Same.f k0 o0 l0 x k1 o1 l1 y = some (sameN k0 o0 l0 x k1 o1 l1 y) := by
  rw [← same_p]
  unfold request_Same.f twainref28_Same.f bytes_Equal.f
  simp only [Option.bind_some]
theorem same_self (k0 o0 l0 : Int) (x : List Int) : sameN k0 o0 l0 x k0 o0 l0 x = true := by
  simp [sameN]
set_option maxRecDepth 20000 in
theorem row_few : ∀ f, f < 64 → ∀ m, m < 4 → f + m ≤ 64 → pop 64 ((2 ^ m - 1) * 2 ^ f % 2 ^ 64) = m := by decide +kernel
theorem ext_few (o l : Int) (h0 : 0 ≤ o) (hl : 1 ≤ l) (h8 : l ≤ 8) (hs : o + l ≤ 256) : 1 ≤ (intsN (list (extN o l))).length ∧ (intsN (list (extN o l))).length ≤ 3 := by
  unfold intsN
  rw [List.length_map, list_length]
  have hp : spanPl o l = true := by rw [pl_iff]; omega
  have hm : min ((o + l - 1) / 4) 63 - o / 4 + 1 = (o + l - 1) / 4 - o / 4 + 1 := by omega
  unfold extN rowN
  rw [if_pos (by simp [hp]; omega), hm, if_pos (by simp [inN]; omega), if_pos (by omega)]
  have h1 : ((o + l - 1) / 4 - o / 4 + 1).toNat < 4 := by omega
  have h2 : (o / 4).toNat < 64 := by omega
  have h3 : (o / 4).toNat + ((o + l - 1) / 4 - o / 4 + 1).toNat ≤ 64 := by omega
  rw [row_few _ h2 _ h1 h3]
  omega
theorem RequestSmall (s b c d e kd o l : Int) (x : List Int) : twainlaw28_RequestSmall.f 300 s b c d e kd o l x = some true := by
  have j1 : twainlaw28_RequestSmall.j0 300 true s b c d e kd o l x = some true := by
    simp only [twainlaw28_RequestSmall.j0]
    rw [lives_p]
    rfl
  unfold twainlaw28_RequestSmall.f request_Good.f
  rw [Option.bind_some, check_p, Option.bind_some]
  by_cases hg : reqGood s b c d e = true
  · rw [if_pos hg]
    by_cases hc : checkN s kd o l x.length = 0
    · rw [hc, show ((0 : Int) != 0) = false by rfl]
      simp only [twainlaw28_RequestSmall.j0]
      rw [if_neg (by simp), lives_p]
      simp only [Option.bind_some]
      have hs : s ≤ 256 := by
        unfold reqGood at hg
        simp only [Bool.and_eq_true, decide_eq_true_eq] at hg
        exact hg.1.2
      unfold checkN at hc
      by_cases h2 : kd = 2
      · subst h2
        rw [if_neg (by decide), if_neg (by decide), if_pos rfl] at hc
        by_cases ho : o = 0 ∧ l = 0 ∧ x.length = 0
        · obtain ⟨rfl, rfl, hn⟩ := ho
          rw [if_pos rfl, if_pos (by decide), if_pos (by omega)]
        · rw [if_neg ho] at hc
          exact absurd hc (by decide)
      · have hgl : goodB o l s = true ∧ l ≤ 8 := by
          by_cases h0 : kd = 0
          · rw [if_pos h0] at hc
            by_cases hh : goodB o l s = true ∧ l ≤ 8 ∧ x.length = 0
            · exact ⟨hh.1, hh.2.1⟩
            · rw [if_neg hh] at hc
              exact absurd hc (by decide)
          · rw [if_neg h0] at hc
            by_cases h1 : kd = 1
            · rw [if_pos h1] at hc
              by_cases hh : goodB o l s = true ∧ l ≤ 8 ∧ (x.length : Int) = 16 * l
              · exact ⟨hh.1, hh.2.1⟩
              · rw [if_neg hh] at hc
                exact absurd hc (by decide)
            · rw [if_neg h1, if_neg h2] at hc
              exact absurd hc (by decide)
        obtain ⟨a1, a2, a3, a4, a5⟩ := good_l hgl.1
        have hf := ext_few o l a1 (by omega) hgl.2 (by omega)
        rw [if_neg h2, ref_extents_p o l 299 (by omega), Option.bind_some, ref_list_p _ (extN_lt o l) 299 (by omega), Option.bind_some, if_pos (by omega), if_pos (by omega), if_pos (by omega), if_pos (by unfold wrap64; omega), if_pos (by omega), if_pos (by omega)]
    · have : (checkN s kd o l x.length != 0) = true := by simpa using hc
      rw [this]
      exact j1
  · rw [if_neg hg]
    exact j1
end Go.Proofs.Ytajpnohhahffbaa.RequestPure
