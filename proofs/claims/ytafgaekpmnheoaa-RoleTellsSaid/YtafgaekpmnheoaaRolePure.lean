/-
  The statements of layer 26 as plain facts.
-/
import Derived.Test.YtafgaekpmnheoaaRoleBP
namespace Go.Proofs.Ytafgaekpmnheoaa.RolePure
open Go.RowKit Go.Proofs.Ytafgaekpmnheoaa.Role Go.Proofs.Ytafgaekpmnheoaa.RoleBP Go.Proofs.Ytafgaekpmnheoaa.BitsPlain Go.Proofs.YtafgaekpmnheoaaW.PrintWords Go.Proofs.YtafgaekpmnheoaaW.PrintMore
theorem u64_of {x : Int} (h : (Lit.int .u64 x).wf = true) : ∃ n : Nat, x = n ∧ n < 2 ^ 64 := by
  simp [Lit.wf, IntKind.min, IntKind.max, IntKind.signed, IntKind.bits] at h
  exact ⟨x.toNat, by omega, by omega⟩
theorem i64_of {x : Int} (h : (Lit.int .i64 x).wf = true) : -9223372036854775808 ≤ x ∧ x ≤ 9223372036854775807 := by
  simp [Lit.wf, IntKind.min, IntKind.max, IntKind.signed, IntKind.bits] at h
  exact h
theorem high (x j : Nat) (hx : x < 2 ^ 64) (h : ¬ j < 64) : x.testBit j = false := Nat.testBit_lt_two_pow (Nat.lt_of_lt_of_le hx (Nat.pow_le_pow_right (by omega) (by omega)))
theorem both_loop (b : Nat) (hb : b < 2 ^ 64) : ∀ (d i k x : Nat), i + d = 64 → d + 66 < k → x < 2 ^ 64 →
    ∃ y : Nat, twainref01_Both.l0 k (x : Int) (b : Int) (i : Int) = some (y : Int) ∧ y < 2 ^ 64 ∧ ∀ j : Nat, y.testBit j = (x.testBit j || (decide (j < 64) && decide (i ≤ j) && b.testBit j)) := by
  intro d
  induction d with
  | zero =>
    intro i k x hi hk hx
    obtain ⟨k, rfl⟩ : ∃ j, k = j + 1 := ⟨k - 1, by omega⟩
    simp only [twainref01_Both.l0]
    rw [if_neg (by omega)]
    refine ⟨x, rfl, hx, fun j => ?_⟩
    by_cases h : j < 64
    · simp [show ¬ i ≤ j by omega]
    · simp [h]
  | succ d ih =>
    intro i k x hi hk hx
    obtain ⟨k, rfl⟩ : ∃ j, k = j + 1 := ⟨k - 1, by omega⟩
    simp only [twainref01_Both.l0]
    rw [if_pos (by omega), ref_has_p b i k (by omega) hb, Option.bind_some, RoleBP.wrap_small _ (by omega) (by omega), show (i : Int) + 1 = ((i + 1 : Nat) : Int) by omega]
    have hin : inN (i : Int) = true := by simp [inN]; omega
    unfold hasN
    rw [hin, Bool.true_and, Int.toNat_natCast]
    by_cases hn : b.testBit i = true
    · rw [if_pos hn, ref_with_p x _ k (by omega) hx, Option.bind_some]
      obtain ⟨y, e, hy, ht⟩ := ih (i + 1) k _ (by omega) (by omega) (withN_lt x i hx)
      refine ⟨y, e, hy, fun j => ?_⟩
      rw [ht, withN_testBit, hin]
      by_cases hj : i = j
      · subst hj; simp [hn, show i < 64 by omega]
      · simp [show ¬ (i : Int) = j by omega, show (i + 1 ≤ j) = (i ≤ j) by simp only [eq_iff_iff]; omega]
    · rw [if_neg hn]
      obtain ⟨y, e, hy, ht⟩ := ih (i + 1) k x (by omega) (by omega) hx
      refine ⟨y, e, hy, fun j => ?_⟩
      rw [ht]
      by_cases hj : i = j
      · subst hj; simp [hn]
      · simp [show (i + 1 ≤ j) = (i ≤ j) by simp only [eq_iff_iff]; omega]
theorem both_p (a b : Nat) (ha : a < 2 ^ 64) (hb : b < 2 ^ 64) (k : Nat) (hk : 140 ≤ k) : twainref01_Both.f k (a : Int) (b : Int) = some ((a ||| b : Nat) : Int) := by
  unfold twainref01_Both.f
  obtain ⟨y, e, hy, ht⟩ := both_loop b hb 64 0 k a (by omega) (by omega) ha
  refine e.trans ?_
  congr 2
  apply Nat.eq_of_testBit_eq
  intro j
  rw [ht, Nat.testBit_or]
  by_cases h : j < 64
  · simp [h]
  · simp [h, high b j hb h]
theorem union_loop (s : Int) (l : List Int) (hl : l.length ≤ 64) (hi : ∀ e ∈ l, 0 ≤ e ∧ e < 64) : ∀ (d i k x : Nat), i + d = l.length → d + 66 < k → x < 2 ^ 64 →
    ∃ y : Nat, twainref26_Union.l0 k s (x : Int) l (l.length : Int) (i : Int) = some (y : Int) ∧ y < 2 ^ 64 ∧ ∀ j : Nat, y.testBit j = (x.testBit j || (decide (4 * (j : Int) + 4 ≤ s) && decide ((j : Int) ∈ l.drop i))) := by
  intro d
  induction d with
  | zero =>
    intro i k x hid hk hx
    obtain ⟨k, rfl⟩ : ∃ j, k = j + 1 := ⟨k - 1, by omega⟩
    simp only [twainref26_Union.l0]
    rw [if_neg (by omega)]
    refine ⟨x, rfl, hx, fun j => ?_⟩
    rw [show l.drop i = [] from List.drop_eq_nil_of_le (by omega)]
    simp
  | succ d ih =>
    intro i k x hid hk hx
    obtain ⟨k, rfl⟩ : ∃ j, k = j + 1 := ⟨k - 1, by omega⟩
    simp only [twainref26_Union.l0]
    have hil : i < l.length := by omega
    rw [if_pos (by omega), if_pos (by omega), if_pos (by omega), rd_at l i hil, RoleBP.wrap_small _ (by omega) (by omega), show (i : Int) + 1 = ((i + 1 : Nat) : Int) by omega]
    obtain ⟨h0, h1⟩ := hi l[i] (List.getElem_mem hil)
    rw [List.drop_eq_getElem_cons hil]
    generalize l[i] = e at *
    rw [show wrap64 (wrap64 (4 * e) + 4) = 4 * e + 4 by unfold wrap64; omega]
    have hin : inN e = true := by simp [inN]; omega
    by_cases hs : 4 * e + 4 ≤ s
    · rw [if_pos hs, ref_with_p x _ k (by omega) hx, Option.bind_some]
      obtain ⟨y, ey, hy, ht⟩ := ih (i + 1) k _ (by omega) (by omega) (withN_lt x e hx)
      refine ⟨y, ey, hy, fun j => ?_⟩
      rw [ht, withN_testBit, hin]
      by_cases hj : e = j
      · subst hj; simp [hs]
      · simp [hj, show ¬ (j : Int) = e by omega]
    · rw [if_neg hs]
      obtain ⟨y, ey, hy, ht⟩ := ih (i + 1) k x (by omega) (by omega) hx
      refine ⟨y, ey, hy, fun j => ?_⟩
      rw [ht]
      by_cases hj : e = j
      · subst hj; simp [hs]
      · simp [show ¬ (j : Int) = e by omega]
theorem list_len (x : Nat) : (intsN (list x)).length ≤ 64 := by
  unfold intsN
  rw [List.length_map, list_length]
  exact pop_le 64 x
theorem list_in (x : Nat) : ∀ e ∈ intsN (list x), 0 ≤ e ∧ e < 64 := by
  intro e he
  unfold intsN at he
  rw [List.mem_map] at he
  obtain ⟨n, hn, rfl⟩ := he
  have := ((list_mem x n).1 hn).1
  omega
theorem list_is (x j : Nat) : decide ((j : Int) ∈ intsN (list x)) = (decide (j < 64) && x.testBit j) := by
  rw [Bool.eq_iff_iff, decide_eq_true_iff, Bool.and_eq_true, decide_eq_true_iff, ← list_mem]
  unfold intsN
  rw [List.mem_map]
  constructor
  · rintro ⟨n, hn, e⟩
    obtain rfl : n = j := by omega
    exact hn
  · intro h
    exact ⟨j, h, rfl⟩
theorem tdiv4 (s : Int) : (0 ≤ s → 4 * s.tdiv 4 ≤ s ∧ s < 4 * s.tdiv 4 + 4) ∧ (s < 0 → s.tdiv 4 ≤ 0 ∧ s ≤ 4 * s.tdiv 4) := by
  constructor
  · intro h
    rw [Int.tdiv_eq_ediv_of_nonneg h]
    omega
  · intro h
    have e : s.tdiv 4 = -((-s).tdiv 4) := by rw [Int.neg_tdiv, Int.neg_neg]
    rw [e, Int.tdiv_eq_ediv_of_nonneg (by omega)]
    omega
def unionN (a b : Nat) (s : Int) : Nat := (a ||| b) &&& rowN 0 (s.tdiv 4)
theorem union_p (a b : Nat) (s : Int) (ha : a < 2 ^ 64) (hb : b < 2 ^ 64) (hs0 : -9223372036854775808 ≤ s) (hs : s ≤ 1000) (k : Nat) (hk : 1 ≤ k) : role_Union.f k (a : Int) (b : Int) s = some ((unionN a b s : Nat) : Int) := by
  unfold role_Union.f
  have h4 : -9223372036854775808 ≤ s.tdiv 4 ∧ s.tdiv 4 ≤ 1000 := by have := tdiv4 s; omega
  rw [show wrap64 (s.tdiv 4) = s.tdiv 4 by unfold wrap64; omega, row_p 0 _ k hk, Option.bind_some, u64_or_nat _ _ ha hb, u64_and_nat _ _ (Nat.or_lt_two_pow ha hb) (rowN_lt _ _)]
  rfl
theorem ref_union_p (a b : Nat) (s : Int) (ha : a < 2 ^ 64) (hb : b < 2 ^ 64) (hs : s ≤ 1000) (k : Nat) (hk : 140 ≤ k) : twainref26_Union.f k (a : Int) (b : Int) s = some ((unionN a b s : Nat) : Int) := by
  unfold twainref26_Union.f
  have hab := Nat.or_lt_two_pow ha hb
  rw [both_p a b ha hb k hk, Option.bind_some, ref_list_p _ hab k (by omega), Option.bind_some]
  have hl := list_len (a ||| b)
  obtain ⟨y, e, hy, ht⟩ := union_loop s (intsN (list (a ||| b))) hl (list_in _) (intsN (list (a ||| b))).length 0 k 0 (by omega) (by omega) (by decide)
  refine e.trans ?_
  congr 2
  apply Nat.eq_of_testBit_eq
  intro j
  unfold unionN
  rw [ht, Nat.testBit_and, rowN_testBit, List.drop_zero, list_is, Nat.zero_testBit, Bool.false_or]
  by_cases h : j < 64
  · have e1 : decide (4 * (j : Int) + 4 ≤ s) = decide ((j : Int) - 0 < s.tdiv 4) := by
      simp only [decide_eq_decide]
      have := tdiv4 s
      omega
    rw [e1]
    simp [h, inN, Bool.and_comm]
  · simp [h]
theorem lives_p (k : Nat) (hk : 1 ≤ k) : twainlaw26_lives.f k = some true := by
  unfold twainlaw26_lives.f role_Source.f role_Arbiter.f
  have := union_p 5 2 8 (by decide) (by decide) (by decide) (by decide) k hk
  have e : unionN 5 2 8 = 3 := by decide +kernel
  rw [e] at this
  simp [show role_Union.f k 5 2 8 = some 3 from this]
theorem RoleTells (who : Int) (m t : Bool) (a b s : Int) (ha : (Lit.int .u64 a).wf = true) (hb : (Lit.int .u64 b).wf = true) (hs : (Lit.int .i64 s).wf = true) : twainlaw26_RoleTells.f 200 who m t a b s = some true := by
  obtain ⟨x, rfl, hx⟩ := u64_of ha
  obtain ⟨y, rfl, hy⟩ := u64_of hb
  have hs' := i64_of hs
  have hm0 : -9223372036854775808 ≤ mn s 1000 := by unfold mn; split <;> omega
  have hm1 : mn s 1000 ≤ 1000 := by unfold mn; split <;> omega
  unfold twainlaw26_RoleTells.f role_Arbiter.f twainref26_Arbiter.f
  rw [Option.bind_some, Option.bind_some, if_pos (by simp)]
  have e1 : twainref26_Source.f who m t = role_Source.f who m t := by
    unfold twainref26_Source.f role_Source.f twainref26_Arbiter.f
    cases m <;> cases t <;> simp <;> rfl
  rw [e1]
  unfold role_Source.f
  rw [Option.bind_some, Option.bind_some, if_pos (by simp), union_p x y _ hx hy hm0 hm1 200 (by omega), Option.bind_some, ref_union_p x y _ hx hy hm1 200 (by omega), Option.bind_some, if_pos rfl, lives_p 200 (by omega)]
  rfl
theorem row_all : rowN 0 64 = 2 ^ 64 - 1 := by decide +kernel
theorem row_four : rowN 0 4 = 15 := by decide +kernel
set_option maxRecDepth 20000 in
theorem pop_four : ∀ v, v < 16 → pop 64 v ≤ 4 := by decide +kernel
theorem union_all (a b : Nat) (ha : a < 2 ^ 64) (hb : b < 2 ^ 64) : unionN a b 256 = a ||| b := by
  unfold unionN
  rw [show Int.tdiv 256 4 = 64 by decide, row_all, Nat.and_two_pow_sub_one_eq_mod, Nat.mod_eq_of_lt (Nat.or_lt_two_pow ha hb)]
theorem union_none (a b : Nat) : unionN a b 0 = 0 := by
  unfold unionN
  rw [show rowN 0 (Int.tdiv 0 4) = 0 by decide +kernel, Nat.and_zero]
theorem union_few (a b : Nat) : unionN a b 16 < 16 := by
  unfold unionN
  rw [show Int.tdiv 16 4 = 4 by decide, row_four]
  have := Nat.and_le_right (n := a ||| b) (m := 15)
  omega
theorem few_len (v : Nat) (h : v < 16) : (intsN (list v)).length ≤ 4 := by
  unfold intsN
  rw [List.length_map, list_length]
  exact pop_four v h
end Go.Proofs.Ytafgaekpmnheoaa.RolePure
