/-
  Plain facts about the hot set: no program.
-/
import Derived.Test.YtoobbolaoldacaaHotU
namespace Go.Proofs.Ytoobbolaoldacaa.HotP
open Go.Proofs.Ytoobbolaoldacaa Go.Proofs.Ytoobbolaoldacaa.Hot Go.Proofs.Ytoobbolaoldacaa.HotBP Go.Proofs.Ytoobbolaoldacaa.BitsPlain Go.Proofs.Ytoobbolaoldacaa.HotW
set_option linter.unusedVariables false
set_option linter.unusedSimpArgs false
theorem u64_of {x : Int} (h : (Lit.int .u64 x).wf = true) : ∃ n : Nat, x = n ∧ n < 2 ^ 64 := by
  simp [Lit.wf, IntKind.min, IntKind.max, IntKind.signed, IntKind.bits] at h
  exact ⟨x.toNat, by omega, by omega⟩
theorem not_testBit (b i : Nat) (hb : b < 2 ^ 64) : (2 ^ 64 - 1 - b).testBit i = (decide (i < 64) && !b.testBit i) := by
  rw [show 2 ^ 64 - 1 - b = 2 ^ 64 - (b + 1) by omega, Nat.testBit_two_pow_sub_succ hb]
theorem high (x i : Nat) (hx : x < 2 ^ 64) (h : ¬ i < 64) : x.testBit i = false := Nat.testBit_lt_two_pow (Nat.lt_of_lt_of_le hx (Nat.pow_le_pow_right (by omega) (by omega)))
theorem pop_one : ∀ k, k < 64 → pop 64 (2 ^ k) = 1 := by decide +kernel
theorem pop_bit (n : Int) (h : inN n = true) : pop 64 (bitN n) = 1 := by
  have h' : 0 ≤ n ∧ n < 64 := by simpa [inN] using h
  unfold bitN
  rw [h]
  exact pop_one n.toNat (by omega)
theorem pop_zero : pop 64 0 = 0 := by decide +kernel
def Good (L : List Int) : Prop := L.Nodup ∧ ∀ e ∈ L, 0 ≤ e ∧ e < 64
theorem good_nil : Good [] := ⟨List.nodup_nil, by simp⟩
theorem bit_ofN (L : List Int) (i : Nat) : (ofN L).testBit i = (decide (i < 64) && decide ((i : Int) ∈ L)) := by
  unfold ofN
  rw [ofN_testBit]
  simp
theorem ofN_lt64 (L : List Int) : ofN L < 2 ^ 64 := ofN_lt L 0 (by omega)
theorem list_is (x j : Nat) : decide ((j : Int) ∈ intsN (list x)) = (decide (j < 64) && x.testBit j) := by
  rw [Bool.eq_iff_iff]
  simp only [decide_eq_true_eq, Bool.and_eq_true]
  unfold intsN
  rw [List.mem_map]
  constructor
  · rintro ⟨a, ha, he⟩
    have : a = j := by omega
    subst this
    exact (list_mem x a).1 ha
  · intro h
    exact ⟨j, (list_mem x j).2 h, rfl⟩
theorem good_list (x : Nat) : Good (intsN (list x)) := by
  constructor
  · unfold intsN
    have h : (list x).Nodup := by unfold list; exact List.Nodup.sublist List.filter_sublist List.nodup_range
    rw [List.nodup_iff_pairwise_ne] at h ⊢
    rw [List.pairwise_map]
    exact h.imp (fun hne he => hne (by omega))
  · intro e he
    unfold intsN at he
    obtain ⟨a, ha, rfl⟩ := List.mem_map.1 he
    have := ((list_mem x a).1 ha).1
    omega
theorem pop_fold : ∀ (M : List Int) (x : Nat), M.Nodup → (∀ e ∈ M, 0 ≤ e ∧ e < 64) → (∀ e ∈ M, x.testBit e.toNat = false) → pop 64 (M.foldl withN x) = pop 64 x + M.length
  | [], x, _, _, _ => rfl
  | e :: M, x, hd, hr, hx => by
    have he := hr e (by simp)
    have hin : inN e = true := by simp [inN]; omega
    rw [List.foldl_cons, pop_fold M (withN x e) (List.nodup_cons.1 hd).2 (fun a ha => hr a (by simp [ha])) (fun a ha => by
      rw [withN_testBit]
      have h1 := hx a (by simp [ha])
      have h2 : ¬ e = a := fun h => (List.nodup_cons.1 hd).1 (h ▸ ha)
      have h3 := hr a (by simp [ha])
      have : ¬ e = ((a.toNat : Nat) : Int) := by omega
      rw [h1, decide_eq_false this, Bool.and_false, Bool.or_self])]
    have h0 : hasN x e = false := by unfold hasN; rw [hx e (by simp)]; simp
    have hz : x &&& bitN e = 0 := by
      have := has_and x e
      rw [h0] at this
      simpa using this
    have hp := pop_or_and 64 x (bitN e)
    rw [hz, pop_zero, pop_bit e hin] at hp
    have : withN x e = x ||| bitN e := rfl
    rw [this, List.length_cons]
    omega
theorem pop_ofN (M : List Int) (h : Good M) : pop 64 (ofN M) = M.length := by
  unfold ofN
  rw [pop_fold M 0 h.1 h.2 (fun e _ => Nat.zero_testBit _), pop_zero]
  omega
theorem pop_mono (x y : Nat) (h : ∀ i, x.testBit i = true → y.testBit i = true) : pop 64 x ≤ pop 64 y := by
  have e : x ||| y = y := by
    apply Nat.eq_of_testBit_eq
    intro i
    rw [Nat.testBit_or]
    cases hx : x.testBit i with
    | true => simp [h i hx]
    | false => simp
  have e2 : x &&& y = x := by
    apply Nat.eq_of_testBit_eq
    intro i
    rw [Nat.testBit_and]
    cases hx : x.testBit i with
    | true => simp [h i hx]
    | false => simp
  have hp := pop_or_and 64 x y
  rw [e, e2] at hp
  have hxy : x ||| (y &&& (x ^^^ y)) = y := by
    apply Nat.eq_of_testBit_eq
    intro i
    rw [Nat.testBit_or, Nat.testBit_and, Nat.testBit_xor]
    cases hx : x.testBit i with
    | true => simp [h i hx]
    | false => simp
  have hz : x &&& (y &&& (x ^^^ y)) = 0 := by
    apply Nat.eq_of_testBit_eq
    intro i
    rw [Nat.testBit_and, Nat.testBit_and, Nat.testBit_xor, Nat.zero_testBit]
    cases hx : x.testBit i with
    | true => simp [h i hx]
    | false => simp
  have hq := pop_or_and 64 x (y &&& (x ^^^ y))
  rw [hxy, hz, pop_zero] at hq
  omega
theorem has_or (a b : Nat) (e : Int) : hasN (a ||| b) e = (hasN a e || hasN b e) := by
  unfold hasN
  rw [Nat.testBit_or]
  cases inN e <;> simp
theorem has_nat (x i : Nat) (hi : i < 64) : hasN x (i : Int) = x.testBit i := by
  unfold hasN
  have : inN (i : Int) = true := by simp [inN]; omega
  simp [this]
/-- what the trimming leaves -/
theorem trim_end (m : Int) (need busy : Nat) : ∀ (k : Nat) (L : List Int), L.length = k → (overN m need (trimN m need busy L) && (trimN m need busy L).any (mayN need busy)) = false
  | 0, L, h => by
    have : L = [] := List.eq_nil_of_length_eq_zero h
    subst this
    simp [trimN, trimK]
  | k + 1, L, h => by
    cases hc : (overN m need L && L.any (mayN need busy)) with
    | false => rw [trim_stop m need busy L hc]; exact hc
    | true =>
      obtain ⟨h1, h2⟩ := trim_go m need busy L hc
      rw [h1]
      exact trim_end m need busy k _ (by omega)
theorem trim_sub (m : Int) (need busy : Nat) : ∀ (k : Nat) (L : List Int), L.length = k → (trimN m need busy L).Sublist L ∧ ∀ x ∈ L, mayN need busy x = false → x ∈ trimN m need busy L
  | 0, L, h => by
    have : L = [] := List.eq_nil_of_length_eq_zero h
    subst this
    exact ⟨by simp [trimN, trimK], by simp⟩
  | k + 1, L, h => by
    cases hc : (overN m need L && L.any (mayN need busy)) with
    | false => rw [trim_stop m need busy L hc]; exact ⟨List.Sublist.refl _, fun x hx _ => hx⟩
    | true =>
      obtain ⟨h1, h2⟩ := trim_go m need busy L hc
      obtain ⟨h3, h4⟩ := trim_sub m need busy k _ (show (L.eraseP (mayN need busy)).length = k by omega)
      rw [h1]
      exact ⟨h3.trans List.eraseP_sublist, fun x hx hm => h4 x ((List.mem_eraseP_of_neg (by simp [hm])).2 hx) hm⟩
theorem step_mem (L : List Int) (e x : Int) : x ∈ stepN L e ↔ x ∈ L ∨ x = e := by
  unfold stepN
  rw [List.mem_append, List.mem_singleton]
  by_cases h : x = e
  · simp [h]
  · rw [List.mem_eraseP_of_neg (by simpa using h)]
theorem steps_mem : ∀ (M L : List Int) (x : Int), x ∈ M.foldl stepN L ↔ x ∈ L ∨ x ∈ M
  | [], L, x => by simp
  | e :: M, L, x => by
    rw [List.foldl_cons, steps_mem M, step_mem, List.mem_cons]
    constructor
    · rintro ((h | h) | h)
      · exact .inl h
      · exact .inr (.inl h)
      · exact .inr (.inr h)
    · rintro (h | h | h)
      · exact .inl (.inl h)
      · exact .inl (.inr h)
      · exact .inr h
theorem erase_not (L : List Int) (e : Int) (h : L.Nodup) : e ∉ L.eraseP (fun x => x == e) := by
  have : L.eraseP (fun x => x == e) = L.erase e := by rw [List.erase_eq_eraseP']
  rw [this]
  exact h.not_mem_erase
theorem step_good (L : List Int) (e : Int) (h : Good L) (he : 0 ≤ e ∧ e < 64) : Good (stepN L e) := by
  refine ⟨?_, fun x hx => ?_⟩
  · unfold stepN
    rw [List.nodup_append]
    refine ⟨h.1.sublist List.eraseP_sublist, by simp, fun a ha b hb => ?_⟩
    rintro rfl
    rw [List.mem_singleton] at hb
    subst hb
    exact erase_not L a h.1 ha
  · rcases (step_mem L e x).1 hx with h1 | h1
    · exact h.2 x h1
    · subst h1; exact he
theorem steps_good : ∀ (M L : List Int), Good L → (∀ e ∈ M, 0 ≤ e ∧ e < 64) → Good (M.foldl stepN L)
  | [], L, h, _ => h
  | e :: M, L, h, hm => by
    rw [List.foldl_cons]
    exact steps_good M _ (step_good L e h (hm e (by simp))) (fun a ha => hm a (by simp [ha]))
theorem trim_good (m : Int) (need busy : Nat) (L : List Int) (h : Good L) : Good (trimN m need busy L) :=
  ⟨h.1.sublist (trim_sub m need busy _ L rfl).1, fun x hx => h.2 x ((trim_sub m need busy _ L rfl).1.subset hx)⟩
theorem use_good (m : Int) (L : List Int) (need busy : Nat) (h : Good L) : Good (useN m L need busy).2 := by
  unfold useN
  split
  · exact steps_good _ _ (trim_good m need busy L h) (good_list need).2
  · exact h
theorem good_len (L : List Int) (h : Good L) : L.length ≤ 64 := by
  rw [← pop_ofN L h]
  exact pop_le 64 _
/-- what a use that is done leaves, bit by bit -/
theorem use_bits (m : Int) (mask need busy : Nat) (hM : mask < 2 ^ 64) (hn : need < 2 ^ 64) (hb : busy < 2 ^ 64) (h : fitsN m (intsN (list mask)) need busy = true) (now : Nat) (hnow : now = ofN (useN m (intsN (list mask)) need busy).2) :
    now < 2 ^ 64 ∧ now &&& need = need ∧ now &&& busy &&& mask = busy &&& mask ∧ now &&& (2 ^ 64 - 1 - mask) &&& (2 ^ 64 - 1 - need) = 0 ∧ ((pop 64 now : Nat) : Int) ≤ m := by
  have hU : (useN m (intsN (list mask)) need busy).2 = (intsN (list need)).foldl stepN (trimN m need busy (intsN (list mask))) := by unfold useN; rw [h]; rfl
  rw [hU] at hnow
  obtain ⟨hs, hk⟩ := trim_sub m need busy _ (intsN (list mask)) rfl
  have he := trim_end m need busy _ (intsN (list mask)) rfl
  have hg := trim_good m need busy _ (good_list mask)
  generalize trimN m need busy (intsN (list mask)) = T at hs hk he hg hnow
  have hbit : ∀ i : Nat, now.testBit i = (decide (i < 64) && (decide ((i : Int) ∈ T) || need.testBit i)) := by
    intro i
    rw [hnow, bit_ofN]
    by_cases hi : i < 64
    · simp only [hi, decide_true, Bool.true_and]
      have := list_is need i
      simp only [hi, decide_true, Bool.true_and] at this
      rw [← this, ← Bool.decide_or]
      exact decide_eq_decide.2 (steps_mem _ _ _)
    · simp [hi]
  have hT : ∀ i : Nat, (i : Int) ∈ T → mask.testBit i = true := by
    intro i hi
    have h1 := hs.subset hi
    have h2 := list_is mask i
    rw [decide_eq_true h1] at h2
    have : decide (i < 64) = true ∧ mask.testBit i = true := by
      have h3 := h2.symm
      rwa [Bool.and_eq_true] at h3
    exact this.2
  have hB : ∀ i : Nat, i < 64 → mask.testBit i = true → (need ||| busy).testBit i = true → (i : Int) ∈ T := by
    intro i hi h1 h2
    refine hk _ ?_ ?_
    · have h3 := list_is mask i
      rw [h1] at h3
      simp only [hi, decide_true, Bool.and_self] at h3
      exact of_decide_eq_true h3
    · unfold mayN
      rw [has_nat _ _ hi, h2]
      rfl
  have hlt : now < 2 ^ 64 := by rw [hnow]; exact ofN_lt64 _
  refine ⟨hlt, ?_, ?_, ?_, ?_⟩
  · apply Nat.eq_of_testBit_eq
    intro i
    rw [Nat.testBit_and, hbit]
    by_cases hi : i < 64
    · cases hx : need.testBit i <;> simp [hi]
    · simp [hi, high need i hn hi]
  · apply Nat.eq_of_testBit_eq
    intro i
    rw [Nat.testBit_and, Nat.testBit_and, Nat.testBit_and, hbit]
    by_cases hi : i < 64
    · cases hx : busy.testBit i
      · simp
      · cases hy : mask.testBit i
        · simp
        · have := hB i hi hy (by rw [Nat.testBit_or, hx]; simp)
          simp [hi, this]
    · simp [hi, high busy i hb hi]
  · apply Nat.eq_of_testBit_eq
    intro i
    rw [Nat.testBit_and, Nat.testBit_and, not_testBit _ _ hM, not_testBit _ _ hn, hbit, Nat.zero_testBit]
    by_cases hi : i < 64
    · by_cases ht : (i : Int) ∈ T
      · simp [hT i ht]
      · cases hx : need.testBit i <;> simp [hi, ht]
    · simp [hi]
  · have hor : now = ofN T ||| need := by
      apply Nat.eq_of_testBit_eq
      intro i
      rw [hbit, Nat.testBit_or, bit_ofN]
      by_cases hi : i < 64
      · simp [hi]
      · simp [hi, high need i hn hi]
    rw [Bool.and_eq_false_iff] at he
    rcases he with he | he
    · have : ¬ m < ((pop 64 (ofN T ||| need) : Nat) : Int) := by simpa [overN] using he
      rw [← hor] at this
      omega
    · have hf : ((pop 64 (need ||| (ofN (intsN (list mask)) &&& busy)) : Nat) : Int) ≤ m := by simpa [fitsN] using h
      have : pop 64 now ≤ pop 64 (need ||| (ofN (intsN (list mask)) &&& busy)) := by
        apply pop_mono
        intro i hi
        have hi64 : i < 64 := by
          by_cases hc : i < 64
          · exact hc
          · rw [high now i hlt hc] at hi; cases hi
        rw [hbit] at hi
        rw [Nat.testBit_or, Nat.testBit_and, bit_ofN]
        cases hx : need.testBit i with
        | true => simp
        | false =>
          have ht : (i : Int) ∈ T := by simpa [hi64, hx] using hi
          have h1 := List.any_eq_false.1 he _ ht
          have h2 : (need ||| busy).testBit i = true := by
            unfold mayN at h1
            rw [has_nat _ _ hi64] at h1
            cases hz : (need ||| busy).testBit i with
            | true => rfl
            | false => rw [hz] at h1; simp at h1
          rw [Nat.testBit_or, hx, Bool.false_or] at h2
          have h3 := hs.subset ht
          simp [hi64, h3, h2]
      omega
end Go.Proofs.Ytoobbolaoldacaa.HotP
