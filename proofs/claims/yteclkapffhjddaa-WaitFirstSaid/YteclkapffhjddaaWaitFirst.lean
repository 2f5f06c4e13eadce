/-
  WaitFirst of layer 16 as a plain fact.
-/
import Derived.Test.YteclkapffhjddaaWaitPure
import Derived.Test.YteclkapffhjddaaWaitx6
namespace Go.Proofs.Yteclkapffhjddaa.WaitFirst
open Go.RowKit Go.Proofs.Yteclkapffhjddaa.Wait Go.Proofs.Yteclkapffhjddaa.WaitSP Go.Proofs.Yteclkapffhjddaa.WaitPure Go.Proofs.YteclkapffhjddaaW.PrintWords Go.Proofs.YteclkapffhjddaaW.PrintMore
theorem tm3 (a : Int) : ∃ q : Int, a = 3 * q + Int.tmod a 3 ∧ -2 ≤ Int.tmod a 3 ∧ Int.tmod a 3 ≤ 2 ∧ (0 ≤ a → 0 ≤ Int.tmod a 3) ∧ (a ≤ 0 → Int.tmod a 3 ≤ 0) := by
  by_cases h : 0 ≤ a
  · have e : Int.tmod a 3 = a % 3 := Int.tmod_eq_emod_of_nonneg h
    rw [e]
    exact ⟨a / 3, by omega, by omega, by omega, fun _ => by omega, fun _ => by omega⟩
  · have e : Int.tmod a 3 = -((-a) % 3) := by
      have h1 : Int.tmod (-a) 3 = (-a) % 3 := Int.tmod_eq_emod_of_nonneg (by omega)
      rw [← h1, Int.neg_tmod, Int.neg_neg]
    rw [e]
    exact ⟨-((-a) / 3), by omega, by omega, by omega, fun _ => by omega, fun _ => by omega⟩
theorem abs_p (a : Int) : ∃ t, twainlaw16_abs.f a = some t ∧ 0 ≤ Int.tmod t 3 ∧ Int.tmod t 3 ≤ 2 := by
  unfold twainlaw16_abs.f
  obtain ⟨q, h1, h2, h3, h4, h5⟩ := tm3 a
  by_cases h : a < 0
  · rw [if_pos h]
    have := h5 (by omega)
    have hw : wrap64 (-(Int.tmod a 3)) = -(Int.tmod a 3) := by unfold wrap64; omega
    rw [hw]
    refine ⟨_, rfl, ?_⟩
    obtain ⟨q', g1, g2, g3, g4, g5⟩ := tm3 (-(Int.tmod a 3))
    have := g4 (by omega)
    omega
  · rw [if_neg h]
    have := h4 (by omega)
    exact ⟨_, rfl, by omega, by omega⟩
theorem meets_p (a b c d : Int) : ∃ r, twainlaw16_meets.f a b c d = some r ∧ (r = true → meetB a b c d = true) := by
  unfold twainlaw16_meets.f
  by_cases h1 : a < 0
  · rw [if_pos h1]; exact ⟨_, rfl, by simp⟩
  rw [if_neg h1]
  by_cases h2 : a > 1073741824
  · rw [if_pos h2]; exact ⟨_, rfl, by simp⟩
  rw [if_neg h2]
  by_cases h3 : b < 0
  · rw [if_pos h3]; exact ⟨_, rfl, by simp⟩
  rw [if_neg h3]
  by_cases h4 : b > 1073741824
  · rw [if_pos h4]; exact ⟨_, rfl, by simp⟩
  rw [if_neg h4]
  by_cases h5 : c < 0
  · rw [if_pos h5]; exact ⟨_, rfl, by simp⟩
  rw [if_neg h5]
  by_cases h6 : c > 1073741824
  · rw [if_pos h6]; exact ⟨_, rfl, by simp⟩
  rw [if_neg h6]
  by_cases h7 : d < 0
  · rw [if_pos h7]; exact ⟨_, rfl, by simp⟩
  rw [if_neg h7]
  by_cases h8 : d > 1073741824
  · rw [if_pos h8]; exact ⟨_, rfl, by simp⟩
  rw [if_neg h8]
  by_cases h9 : b > 0
  · rw [if_pos h9]
    by_cases h10 : d > 0
    · rw [if_pos h10, show wrap64 (c + d) = c + d by unfold wrap64; omega, show wrap64 (a + b) = a + b by unfold wrap64; omega]
      by_cases h11 : a < c + d
      · rw [if_pos h11]
        refine ⟨_, rfl, fun h => ?_⟩
        have h12 : c < a + b := by simpa using h
        unfold meetB
        rw [(pl_iff a b).2 (by omega), (pl_iff c d).2 (by omega)]
        simp only [Bool.true_and, decide_eq_true_eq]
        omega
      · rw [if_neg h11]; exact ⟨_, rfl, by simp⟩
    · rw [if_neg h10]; exact ⟨_, rfl, by simp⟩
  · rw [if_neg h9]; exact ⟨_, rfl, by simp⟩
def Ok (x : List S57) (n : Nat) : Prop := ∀ j, ∀ h : j < x.length, j < n → 0 ≤ x[j].f1 ∧ x[j].f1 ≤ 2
theorem may_n (x : List S57) (i : Nat) (hi : i < x.length) : wait_May.f x (i : Int) [] [] = some (mayIn x i [] [] x[i]) := by
  unfold wait_May.f
  rw [if_neg (by omega), Int.toNat_natCast, List.getElem?_eq_getElem hi]
theorem may_0 (x : List S57) (n : Nat) (hn : n = x.length) (h : Ok x n) (hi : 0 < x.length) : wait_May.f x 0 [] [] = some true := by
  have := may_n x 0 hi
  refine Eq.trans this ?_
  obtain ⟨h1, h2⟩ := h 0 hi (by omega)
  unfold mayIn
  by_cases c0 : x[0].f1 = 0
  · rw [if_pos c0]; simp
  · rw [if_neg c0]
    by_cases c1 : x[0].f1 = 1
    · rw [if_pos c1]; simp
    · rw [if_neg c1, if_pos (by omega)]; simp
theorem may_no (x : List S57) (i m : Nat) (hi : i < x.length) (hm : m < i) (hk : x[m].f1 = 1) (h2 : x[i].f1 ≠ 2) (hv : meetB x[m].f2.f0 x[m].f2.f1 x[i].f2.f0 x[i].f2.f1 = true) : wait_May.f x (i : Int) [] [] = some false := by
  rw [may_n x i hi]
  have ha : ((x.take i).any fun y => y.f1 == 1 && mayOv x[i].f2 y.f2) = true := by
    rw [List.any_eq_true]
    refine ⟨x[m], ?_, ?_⟩
    · have hq : m < (x.take i).length := by rw [List.length_take]; omega
      have := List.getElem_mem hq
      rwa [List.getElem_take] at this
    · rw [ov_eq, hv]; simp [hk]
  unfold mayIn
  rw [ha]
  by_cases c0 : x[i].f1 = 0
  · rw [if_pos c0]; simp
  · rw [if_neg c0]
    by_cases c1 : x[i].f1 = 1
    · rw [if_pos c1]; simp
    · rw [if_neg c1, if_neg h2]
theorem l12 (x : List S57) (n : Nat) (hn : n = x.length) (hl : n ≤ 40) : ∀ (d i k : Nat), i + d = n → 60 * d + 5 < k →
    twainlaw16_WaitFirst.l1 k x (n : Int) (i : Int) = some true := by
  intro d
  induction d with
  | zero =>
    intro i k hi hk
    obtain ⟨k, rfl⟩ : ∃ j, k = j + 1 := ⟨k - 1, by omega⟩
    simp only [twainlaw16_WaitFirst.l1]
    rw [if_neg (by omega), lives_p, Option.bind_some]
  | succ d ih =>
    intro i k hi hk
    obtain ⟨k, rfl⟩ : ∃ j, k = j + 1 := ⟨k - 1, by omega⟩
    simp only [twainlaw16_WaitFirst.l1]
    rw [if_pos (by omega)]
    have hil : i < x.length := by omega
    have inner : ∀ (e m k : Nat), m + e = i → 60 * d + 8 + e < k → twainlaw16_WaitFirst.l2 k x (i : Int) (m : Int) (n : Int) (i : Int) = some true := by
      intro e
      induction e with
      | zero =>
        intro m k hm hk
        obtain ⟨k, rfl⟩ : ∃ j, k = j + 1 := ⟨k - 1, by omega⟩
        simp only [twainlaw16_WaitFirst.l2]
        rw [if_neg (by omega), WaitPure.add_one _ (by omega) (by omega), show (i : Int) + 1 = ((i + 1 : Nat) : Int) by omega, ih (i + 1) k (by omega) (by omega)]
      | succ e ihe =>
        intro m k hm hk
        obtain ⟨k, rfl⟩ : ∃ j, k = j + 1 := ⟨k - 1, by omega⟩
        simp only [twainlaw16_WaitFirst.l2]
        have hml : m < x.length := by omega
        have nx : twainlaw16_WaitFirst.l2 k x (i : Int) (wrap64 ((m : Int) + 1)) (n : Int) (i : Int) = some true := by
          rw [WaitPure.add_one _ (by omega) (by omega), show (m : Int) + 1 = ((m + 1 : Nat) : Int) by omega]
          exact ihe (m + 1) k (by omega) (by omega)
        rw [if_pos (by omega), if_pos (by omega), if_pos (by omega), nx, rd_at57 x m hml]
        by_cases c1 : x[m].f1 = 1
        · rw [if_pos c1, if_pos (by omega), if_pos (by omega), rd_at57 x i hil]
          by_cases c2 : x[i].f1 = 2
          · rw [if_pos c2]
          · rw [if_neg c2]
            obtain ⟨r, hr, hv⟩ := meets_p x[m].f2.f0 x[m].f2.f1 x[i].f2.f0 x[i].f2.f1
            rw [hr, Option.bind_some]
            cases r with
            | false => simp
            | true => rw [if_pos rfl, may_no x i m hil (by omega) c1 c2 (hv rfl), Option.bind_some, if_neg (by simp)]
        · rw [if_neg c1]
    exact inner i 0 k (by omega) (by omega)
theorem l00 (n : Nat) (hl : n ≤ 40) : ∀ (d i k : Nat) (x : List S57), n = x.length → Ok x i → i + d = n → d + 2500 < k →
    twainlaw16_WaitFirst.l0 k x (n : Int) (i : Int) = some true := by
  intro d
  induction d with
  | zero =>
    intro i k x hn ho hi hk
    obtain ⟨k, rfl⟩ : ∃ j, k = j + 2 := ⟨k - 2, by omega⟩
    have hj : twainlaw16_WaitFirst.j1 (k + 1) x false = some true := by
      simp only [twainlaw16_WaitFirst.j1]
      rw [if_neg (by simp), ← hn]
      exact l12 x n hn hl n 0 k (by omega) (by omega)
    simp only [twainlaw16_WaitFirst.l0]
    rw [if_neg (by omega)]
    by_cases h : (x.length : Int) > 0
    · rw [if_pos h, may_0 x n hn (by rw [show i = n by omega] at ho; exact ho) (by omega), Option.bind_some]
      exact hj
    · rw [if_neg h]
      exact hj
  | succ d ih =>
    intro i k x hn ho hi hk
    obtain ⟨k, rfl⟩ : ∃ j, k = j + 1 := ⟨k - 1, by omega⟩
    have hil : i < x.length := by omega
    simp only [twainlaw16_WaitFirst.l0]
    obtain ⟨t, ht, ht0, ht2⟩ := abs_p x[i].f1
    rw [if_pos (by omega), if_pos (by omega), if_pos (by omega), rd_at57 x i hil, ht, Option.bind_some, WaitPure.add_one _ (by omega) (by omega), show (i : Int) + 1 = ((i + 1 : Nat) : Int) by omega, Int.toNat_natCast]
    refine ih (i + 1) k _ (by rw [List.length_set]; exact hn) ?_ (by omega) (by omega)
    intro j hj hji
    rw [List.getElem_set]
    by_cases he : i = j
    · rw [if_pos he]; exact ⟨ht0, ht2⟩
    · rw [if_neg he]
      exact ho j (by rw [List.length_set] at hj; exact hj) (by omega)
theorem first_p (l : List S76) : twainlaw16_WaitFirst.f 2600 l = some true := by
  unfold twainlaw16_WaitFirst.f
  by_cases h : (l.length : Int) > 40
  · rw [if_pos h, lives_p, Option.bind_some]
  · rw [if_neg h, items_p l (by omega) _ (by omega), Option.bind_some, List.length_map]
    refine l00 l.length (by omega) l.length 0 2600 _ (by rw [List.length_map]) ?_ (by omega) (by omega)
    intro j hj h0
    omega
end Go.Proofs.Yteclkapffhjddaa.WaitFirst
