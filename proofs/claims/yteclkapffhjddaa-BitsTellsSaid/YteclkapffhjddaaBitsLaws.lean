/-
  The statements of layer 1 as plain facts.
-/
import Derived.Test.YteclkapffhjddaaBitsPure
import Derived.Test.YteclkapffhjddaaBitsx3
namespace Go.Proofs.Yteclkapffhjddaa.BitsLaws
open Go.RowKit Go.Proofs.Yteclkapffhjddaa.Bits Go.Proofs.Yteclkapffhjddaa.BitsPlain Go.Proofs.Yteclkapffhjddaa.BitsPure Go.Proofs.YteclkapffhjddaaW.PrintWords Go.Proofs.YteclkapffhjddaaW.PrintMore
theorem u64_of {x : Int} (h : (Lit.int .u64 x).wf = true) : ∃ n : Nat, x = n ∧ n < 2 ^ 64 := by
  simp [Lit.wf, IntKind.min, IntKind.max, IntKind.signed, IntKind.bits] at h
  exact ⟨x.toNat, by omega, by omega⟩
theorem BitsRows (f n : Int) : twainlaw01_BitsRows.f 200 f n = some true := by
  unfold twainlaw01_BitsRows.f
  rw [row_p f n 200 (by omega), Option.bind_some, ref_row_p f n 200 (by omega), Option.bind_some, if_pos rfl, lives_p 200 (by omega)]
  rfl
theorem BitsBack (a b : Int) (wa : (Lit.int .u64 a).wf = true) (wb : (Lit.int .u64 b).wf = true) : twainlaw01_BitsBack.f 200 a b = some true := by
  obtain ⟨x, rfl, hx⟩ := u64_of wa
  obtain ⟨y, rfl, hy⟩ := u64_of wb
  have hll : (intsN (list x)).length ≤ 64 := by
    unfold intsN
    rw [List.length_map, list_length]
    exact pop_le 64 x
  unfold twainlaw01_BitsBack.f
  rw [list_p x hx, Option.bind_some, of_p _ (by omega) 200 (by omega), Option.bind_some, show ofN (intsN (list x)) = x from ofN_list x hx, if_pos rfl, u64_or_nat _ _ hx hy, u64_and_nat _ _ hx hy, count_p _ (Nat.or_lt_two_pow hx hy), Option.bind_some, count_p _ (Nat.and_lt_two_pow _ hy), Option.bind_some, count_p _ hx, Option.bind_some, count_p _ hy, Option.bind_some]
  have hp := pop_or_and 64 x y
  have h1 := pop_le 64 (x ||| y)
  have h2 := pop_le 64 (x &&& y)
  rw [if_pos (by unfold wrap64; omega), lives_p 200 (by omega)]
  rfl
theorem BitsActs (a n : Int) (wa : (Lit.int .u64 a).wf = true) : twainlaw01_BitsActs.f 200 a n = some true := by
  obtain ⟨x, rfl, hx⟩ := u64_of wa
  unfold twainlaw01_BitsActs.f
  have hh : bits_Has.f (x : Int) n = some (hasN x n) := has_p x n hx
  have hb := bitN_lt n
  have hw : bits_Without.f (x : Int) n = some ((withoutN x n : Nat) : Int) := by
    unfold bits_Without.f
    rw [one_p, Option.bind_some, u64_andNot_nat _ _ hx hb, show 18446744073709551615 = 2 ^ 64 - 1 by rfl, withoutN_and x n hx]
  have hr : twainref01_Without.f 200 (x : Int) n = some ((withoutN x n : Nat) : Int) := by
    unfold twainref01_Without.f
    rw [ref_has_p x n 200 (by omega) hx, Option.bind_some]
    unfold withoutN
    by_cases h : hasN x n = true
    · have hle : bitN n ≤ x := by
        have := withN_has x n h
        unfold withN at this
        have h3 : bitN n ≤ x ||| bitN n := Nat.right_le_or
        omega
      rw [if_pos h, if_pos h, ref_one_p n 200 (by omega), Option.bind_some, IntKind.wrap_u64]
      congr 1
      omega
    · rw [if_neg h, if_neg h]
  rw [one_p, Option.bind_some, ref_one_p n 200 (by omega), Option.bind_some, if_pos rfl, hh, Option.bind_some, ref_has_p x n 200 (by omega) hx, Option.bind_some, if_pos (by simp), with_p x n hx, Option.bind_some, ref_with_p x n 200 (by omega) hx, Option.bind_some, if_pos rfl, hw, Option.bind_some, hr, Option.bind_some, if_pos rfl, lives_p 200 (by omega)]
  rfl
end Go.Proofs.Yteclkapffhjddaa.BitsLaws
