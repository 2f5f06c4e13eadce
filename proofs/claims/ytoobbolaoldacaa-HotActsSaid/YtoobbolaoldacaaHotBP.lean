/-
  Plain facts: what the functions come to (Hot).
-/
import Derived.Test.YtoobbolaoldacaaHotx1
import Derived.Test.YtoobbolaoldacaaHotx2
import Derived.Test.YtoobbolaoldacaaSetPlain
import Derived.Laws.BitsAllLaws
namespace Go.Proofs.Ytoobbolaoldacaa.HotBP
open Go.RowKit Go.Proofs.Ytoobbolaoldacaa.Hot Go.Proofs.Ytoobbolaoldacaa.BitsPlain Go.Proofs.YtoobbolaoldacaaW.PrintWords Go.Proofs.YtoobbolaoldacaaW.PrintMore
theorem wrap_small (i : Int) (h0 : -1000000 ≤ i) (h1 : i < 9223372036854775807) : wrap64 (i + 1) = i + 1 := by unfold wrap64; omega
theorem in_p (n : Int) : bits_in.f n = some (inN n) := by
  unfold bits_in.f inN
  by_cases h : 0 ≤ n <;> simp [h]
theorem pow_int (m : Nat) : ((2 : Int) ^ m) = ((2 ^ m : Nat) : Int) := by simp
theorem shl_nat (x m : Nat) (h : m ≤ 64) : shl .u64 (x : Int) (m : Int) = ((x * 2 ^ m % 2 ^ 64 : Nat) : Int) := by
  unfold shl
  rw [IntKind.wrap_u64, show min (m : Int).toNat (IntKind.bits .u64) = m by simp [IntKind.bits]; omega, pow_int, ← Int.natCast_mul]
  omega
theorem one_p (n : Int) : bits_One.f n = some ((bitN n : Nat) : Int) := by
  unfold bits_One.f
  rw [in_p, Option.bind_some]
  unfold bitN
  by_cases h : inN n = true
  · have h' := h
    simp [inN] at h'
    rw [if_pos h, if_pos h, if_pos h'.1]
    obtain ⟨m, rfl⟩ := Int.eq_ofNat_of_zero_le h'.1
    have := shl_nat 1 m (by omega)
    rw [Nat.one_mul, Nat.mod_eq_of_lt (Nat.pow_lt_pow_right (by omega) (by omega))] at this
    simpa using this
  · rw [if_neg h, if_neg h]
    rfl
theorem ref_one_loop (m : Nat) (hm : m < 64) : ∀ (d i k : Nat), i + d = m → d < k → twainref01_One.l0 k (m : Int) ((2 ^ i : Nat) : Int) (i : Int) = some ((2 ^ m : Nat) : Int) := by
  intro d
  induction d with
  | zero =>
    intro i k hi hk
    obtain ⟨k, rfl⟩ : ∃ j, k = j + 1 := ⟨k - 1, by omega⟩
    simp only [twainref01_One.l0]
    rw [if_neg (by omega), show i = m by omega]
  | succ d ih =>
    intro i k hi hk
    obtain ⟨k, rfl⟩ : ∃ j, k = j + 1 := ⟨k - 1, by omega⟩
    simp only [twainref01_One.l0]
    have hp : 2 ^ (i + 1) < 2 ^ 64 := Nat.pow_lt_pow_right (by omega) (by omega)
    rw [Nat.pow_succ] at hp
    rw [if_pos (by omega), wrap_small _ (by omega) (by omega), IntKind.wrap_u64, show ((2 ^ i : Nat) : Int) * 2 % 18446744073709551616 = ((2 ^ (i + 1) : Nat) : Int) by rw [Nat.pow_succ]; omega, show (i : Int) + 1 = ((i + 1 : Nat) : Int) by omega]
    exact ih (i + 1) k (by omega) (by omega)
theorem ref_one_p (n : Int) (k : Nat) (hk : 66 ≤ k) : twainref01_One.f k n = some ((bitN n : Nat) : Int) := by
  obtain ⟨k, rfl⟩ : ∃ j, k = j + 1 := ⟨k - 1, by omega⟩
  unfold twainref01_One.f bitN
  by_cases h : inN n = true
  · have h' := h
    simp [inN] at h'
    rw [if_pos h, if_neg (by omega)]
    simp only [twainref01_One.j0]
    rw [if_neg (by simp; omega)]
    obtain ⟨m, rfl⟩ := Int.eq_ofNat_of_zero_le h'.1
    exact ref_one_loop m (by omega) m 0 k (by omega) (by omega)
  · rw [if_neg h]
    simp [inN] at h
    by_cases hn : n < 0
    · rw [if_pos hn]; simp [twainref01_One.j0]
    · rw [if_neg hn]
      simp only [twainref01_One.j0]
      rw [if_pos (by simp; omega)]
      rfl
theorem has_p (x : Nat) (n : Int) (hx : x < 2 ^ 64) : (bits_One.f n).bind (fun t => some ((Go.bits .and .u64 (x : Int) t) != 0)) = some (hasN x n) := by
  rw [one_p, Option.bind_some, u64_and_nat _ _ hx (bitN_lt n), ← has_and]
  congr 1
  rw [Bool.eq_iff_iff, decide_eq_true_iff, bne_iff_ne]
  omega
theorem ref_has_p (x : Nat) (n : Int) (k : Nat) (hk : 66 ≤ k) (hx : x < 2 ^ 64) : twainref01_Has.f k (x : Int) n = some (hasN x n) := by
  unfold twainref01_Has.f hasN
  by_cases h0 : n ≥ 0
  · rw [if_pos h0]
    by_cases h1 : n ≤ 63
    · rw [if_pos h1, ref_one_p n k hk, Option.bind_some]
      have hi : inN n = true := by simp [inN]; omega
      have hb : bitN n = 2 ^ n.toNat := by unfold bitN; rw [if_pos hi]
      have hp := Nat.two_pow_pos n.toNat
      rw [hb, if_neg (by omega), hi, Bool.true_and, Nat.testBit_eq_decide_div_mod_eq, Int.tdiv_eq_ediv_of_nonneg (by omega), ← Int.natCast_ediv, IntKind.wrap_u64, Int.tmod_eq_emod_of_nonneg (by omega)]
      have hd : x / 2 ^ n.toNat ≤ x := Nat.div_le_self _ _
      generalize x / 2 ^ n.toNat = q at *
      congr 1
      rw [Bool.eq_iff_iff, beq_iff_eq, decide_eq_true_iff]
      omega
    · rw [if_neg h1, show inN n = false by simp [inN]; omega]; rfl
  · rw [if_neg h0, show inN n = false by simp [inN]; omega]; rfl
theorem with_p (x : Nat) (n : Int) (hx : x < 2 ^ 64) : bits_With.f (x : Int) n = some ((withN x n : Nat) : Int) := by
  unfold bits_With.f
  rw [one_p, Option.bind_some, u64_or_nat _ _ hx (bitN_lt n)]
  rfl
theorem ref_with_p (x : Nat) (n : Int) (k : Nat) (hk : 66 ≤ k) (hx : x < 2 ^ 64) : twainref01_With.f k (x : Int) n = some ((withN x n : Nat) : Int) := by
  unfold twainref01_With.f
  rw [ref_has_p x n k hk hx, Option.bind_some]
  by_cases h : hasN x n = true
  · rw [if_pos h, withN_has x n h]
  · have hf : hasN x n = false := by simpa using h
    rw [if_neg h, ref_one_p n k hk, Option.bind_some, withN_add x n hf, IntKind.wrap_u64]
    have := withN_lt x n hx
    rw [withN_add x n hf] at this
    congr 1
    omega
theorem rd_at (l : List Int) (i : Nat) (h : i < l.length) : rd l (i : Int) = l[i] := by
  unfold rd
  rw [Int.toNat_natCast, List.getD_eq_getElem?_getD, List.getElem?_eq_getElem h]
  rfl
theorem of_loop (l : List Int) (hl : l.length < 2 ^ 63) : ∀ (d i k x : Nat), i + d = l.length → d < k → x < 2 ^ 64 → bits_Of.l0 k (x : Int) l (l.length : Int) (i : Int) = some (((l.drop i).foldl withN x : Nat) : Int) := by
  intro d
  induction d with
  | zero =>
    intro i k x hi hk hx
    obtain ⟨k, rfl⟩ : ∃ j, k = j + 1 := ⟨k - 1, by omega⟩
    simp only [bits_Of.l0]
    rw [if_neg (by omega), show l.drop i = [] from List.drop_eq_nil_of_le (by omega)]
    rfl
  | succ d ih =>
    intro i k x hi hk hx
    obtain ⟨k, rfl⟩ : ∃ j, k = j + 1 := ⟨k - 1, by omega⟩
    simp only [bits_Of.l0]
    have hil : i < l.length := by omega
    rw [if_pos (by omega), if_pos (by omega), if_pos (by omega), rd_at l i hil, with_p x _ hx, Option.bind_some, wrap_small _ (by omega) (by omega), show (i : Int) + 1 = ((i + 1 : Nat) : Int) by omega, ih (i + 1) k _ (by omega) (by omega) (withN_lt _ _ hx), List.drop_eq_getElem_cons hil]
    rfl
theorem of_p (l : List Int) (hl : l.length < 2 ^ 63) (k : Nat) (hk : l.length < k) : bits_Of.f k l = some ((ofN l : Nat) : Int) := by
  have := of_loop l hl l.length 0 k 0 (by omega) hk (by decide)
  exact this
theorem ref_of_loop (l : List Int) (hl : l.length < 2 ^ 63) : ∀ (d i k x : Nat), i + d = l.length → d + 66 < k → x < 2 ^ 64 → twainref01_Of.l0 k (x : Int) l (l.length : Int) (i : Int) = some (((l.drop i).foldl withN x : Nat) : Int) := by
  intro d
  induction d with
  | zero =>
    intro i k x hi hk hx
    obtain ⟨k, rfl⟩ : ∃ j, k = j + 1 := ⟨k - 1, by omega⟩
    simp only [twainref01_Of.l0]
    rw [if_neg (by omega), show l.drop i = [] from List.drop_eq_nil_of_le (by omega)]
    rfl
  | succ d ih =>
    intro i k x hi hk hx
    obtain ⟨k, rfl⟩ : ∃ j, k = j + 1 := ⟨k - 1, by omega⟩
    simp only [twainref01_Of.l0]
    have hil : i < l.length := by omega
    rw [if_pos (by omega), if_pos (by omega), if_pos (by omega), rd_at l i hil, ref_with_p x _ k (by omega) hx, Option.bind_some, wrap_small _ (by omega) (by omega), show (i : Int) + 1 = ((i + 1 : Nat) : Int) by omega, ih (i + 1) k _ (by omega) (by omega) (withN_lt _ _ hx), List.drop_eq_getElem_cons hil]
    rfl
theorem ref_of_p (l : List Int) (hl : l.length < 2 ^ 63) (k : Nat) (hk : l.length + 66 < k) : twainref01_Of.f k l = some ((ofN l : Nat) : Int) := by
  have := ref_of_loop l hl l.length 0 k 0 (by omega) hk (by decide)
  exact this
def intsN (l : List Nat) : List Int := l.map (fun n : Nat => (n : Int))
theorem listTo_length (x m : Nat) : (listTo x m).length ≤ m := by
  unfold listTo
  exact Nat.le_trans (List.length_filter_le _ _) (by simp)
theorem ref_list_loop (x : Nat) (hx : x < 2 ^ 64) : ∀ (d i k : Nat), i + d = 64 → d + 66 < k → twainref01_List.l0 k (x : Int) (intsN (listTo x i)) (i : Int) = some (intsN (listTo x 64)) := by
  intro d
  induction d with
  | zero =>
    intro i k hi hk
    obtain ⟨k, rfl⟩ : ∃ j, k = j + 1 := ⟨k - 1, by omega⟩
    simp only [twainref01_List.l0]
    rw [if_neg (by omega), show i = 64 by omega]
  | succ d ih =>
    intro i k hi hk
    obtain ⟨k, rfl⟩ : ∃ j, k = j + 1 := ⟨k - 1, by omega⟩
    simp only [twainref01_List.l0]
    have hin : inN (i : Int) = true := by simp [inN]; omega
    rw [if_pos (by omega), ref_has_p x _ k (by omega) hx, Option.bind_some, wrap_small _ (by omega) (by omega), show (i : Int) + 1 = ((i + 1 : Nat) : Int) by omega]
    have hl := listTo_length x i
    have := ih (i + 1) k (by omega) (by omega)
    rw [listTo_succ] at this
    unfold hasN
    rw [hin, Bool.true_and, Int.toNat_natCast]
    by_cases hb : x.testBit i = true
    · rw [if_pos hb] at this ⊢
      rw [if_pos (by simp [intsN]; omega)]
      simpa [intsN] using this
    · rw [if_neg hb] at this ⊢
      simpa using this
theorem ref_list_p (x : Nat) (hx : x < 2 ^ 64) (k : Nat) (hk : 130 < k) : twainref01_List.f k (x : Int) = some (intsN (list x)) := by
  have := ref_list_loop x hx 64 0 k (by omega) (by omega)
  rw [listTo_all] at this
  exact this
theorem list_p (x : Nat) (hx : x < 2 ^ 64) : bits_List.f (x : Int) = some (intsN (list x)) := by
  unfold bits_List.f
  rw [if_pos (by omega), Int.toNat_natCast]
  rfl
theorem count_p (x : Nat) (hx : x < 2 ^ 64) : bits_Count.f (x : Int) = some ((pop 64 x : Nat) : Int) := by
  unfold bits_Count.f
  rw [if_pos (by omega), Int.toNat_natCast]
theorem ints_loop (a : List Int) (hl : a.length < 2 ^ 63) : ∀ (d i k : Nat), i + d = a.length → d < k → twainref01_Ints.l0 k a a (a.length : Int) (i : Int) = some true := by
  intro d
  induction d with
  | zero =>
    intro i k hi hk
    obtain ⟨k, rfl⟩ : ∃ j, k = j + 1 := ⟨k - 1, by omega⟩
    simp only [twainref01_Ints.l0]
    rw [if_neg (by omega)]
  | succ d ih =>
    intro i k hi hk
    obtain ⟨k, rfl⟩ : ∃ j, k = j + 1 := ⟨k - 1, by omega⟩
    simp only [twainref01_Ints.l0]
    rw [if_pos (by omega), if_pos (by omega), if_pos (by omega), if_pos (by omega), wrap_small _ (by omega) (by omega), show (i : Int) + 1 = ((i + 1 : Nat) : Int) by omega]
    simp only [if_true]
    exact ih (i + 1) k (by omega) (by omega)
theorem ints_p (a : List Int) (hl : a.length < 2 ^ 63) (k : Nat) (hk : a.length < k) : twainref01_Ints.f k a a = some true := by
  unfold twainref01_Ints.f
  rw [if_pos rfl]
  exact ints_loop a hl a.length 0 k (by omega) hk

end Go.Proofs.Ytoobbolaoldacaa.HotBP
