/-
  WaitTells and WaitFirst of layer 16 as plain facts.
-/
import Derived.Test.YteclkapffhjddaaWaitPure
import Derived.Test.YteclkapffhjddaaWaitx5
namespace Go.Proofs.Yteclkapffhjddaa.WaitTells
open Go.RowKit Go.Proofs.Yteclkapffhjddaa.Wait Go.Proofs.Yteclkapffhjddaa.WaitSP Go.Proofs.Yteclkapffhjddaa.WaitPure Go.Proofs.YteclkapffhjddaaW.PrintWords Go.Proofs.YteclkapffhjddaaW.PrintMore
def seek (M : Int → Bool) : Nat → Int → Int × Bool
  | 0, _ => (0, false)
  | d + 1, i => if M i then (i, true) else seek M d (i + 1)
theorem first0 (l f : List S76) (s : List S55) (hl : l.length ≤ 40) : ∀ (d k : Nat) (i : Int), 0 ≤ i → ((l.length : Int) - i).toNat = d → d < k → i ≤ 2^63 - 1 →
    wait_First.l0 k (l.map conv) (f.map conv) s i = some (seek (mayB l f s) d i) := by
  intro d
  induction d with
  | zero =>
    intro k i h0 hi hk hb
    obtain ⟨k, rfl⟩ : ∃ j, k = j + 1 := ⟨k - 1, by omega⟩
    simp only [wait_First.l0, List.length_map]
    rw [if_neg (by omega)]; rfl
  | succ d ih =>
    intro k i h0 hi hk hb
    obtain ⟨k, rfl⟩ : ∃ j, k = j + 1 := ⟨k - 1, by omega⟩
    simp only [wait_First.l0, List.length_map]
    rw [if_pos (by omega), may_p, Option.bind_some, WaitPure.add_one _ (by omega) (by omega), ih k (i + 1) (by omega) (by omega) (by omega) (by omega)]
    show _ = some (if mayB l f s i then (i, true) else seek (mayB l f s) d (i + 1))
    cases mayB l f s i <;> rfl
def firstB (l f : List S76) (s : List S55) (i : Int) : Int × Bool := if i < 0 then (0, false) else seek (mayB l f s) ((l.length : Int) - i).toNat i
theorem first_p (l f : List S76) (s : List S55) (i : Int) (hl : l.length ≤ 40) (hi : i ≤ 2^63 - 1) (k : Nat) (hk : 200 ≤ k) : wait_First.f k (l.map conv) i (f.map conv) s = some (firstB l f s i) := by
  unfold wait_First.f firstB
  by_cases h : i < 0
  · rw [if_pos h, if_pos h]
  · rw [if_neg h, if_neg h]
    exact first0 l f s hl _ k i (by omega) rfl (by omega) hi
theorem rfirst0 (l f : List S76) (s : List S55) (fr : Int) (hl : l.length ≤ 40) (hf : f.length ≤ 40) (hs : s.length ≤ 40) : ∀ (d k : Nat) (i : Int), 0 ≤ i → ((l.length : Int) - i).toNat = d → d + 250 < k →
    twainref16_First.l0 k l fr f s i = some (if fr < 0 then (0, false) else seek (mayB l f s) ((l.length : Int) - max i fr).toNat (max i fr)) := by
  intro d
  induction d with
  | zero =>
    intro k i h0 hi hk
    obtain ⟨k, rfl⟩ : ∃ j, k = j + 1 := ⟨k - 1, by omega⟩
    simp only [twainref16_First.l0]
    rw [if_neg (by omega), show ((l.length : Int) - max i fr).toNat = 0 by omega]
    simp [seek]
  | succ d ih =>
    intro k i h0 hi hk
    obtain ⟨k, rfl⟩ : ∃ j, k = j + 1 := ⟨k - 1, by omega⟩
    simp only [twainref16_First.l0]
    rw [if_pos (by omega), WaitPure.add_one _ (by omega) (by omega), ih k (i + 1) (by omega) (by omega) (by omega), ref_may_p l f s i hl hf hs k (by omega), Option.bind_some]
    by_cases h : fr < 0
    · rw [if_neg (by omega), if_pos h, if_pos h]
    · rw [if_pos (by omega), if_neg h, if_neg h]
      by_cases h2 : i ≥ fr
      · rw [if_pos h2, show max i fr = i by omega, show max (i + 1) fr = i + 1 by omega, hi, show ((l.length : Int) - (i + 1)).toNat = d by omega]
        show _ = some (if mayB l f s i then (i, true) else seek (mayB l f s) d (i + 1))
        cases mayB l f s i <;> rfl
      · rw [if_neg h2, show max i fr = fr by omega, show max (i + 1) fr = fr by omega]
theorem rfirst_p (l f : List S76) (s : List S55) (i : Int) (hl : l.length ≤ 40) (hf : f.length ≤ 40) (hs : s.length ≤ 40) (k : Nat) (hk : 300 ≤ k) : twainref16_First.f k l i f s = some (firstB l f s i) := by
  unfold twainref16_First.f firstB
  rw [rfirst0 l f s i hl hf hs l.length k 0 (by omega) (by omega) (by omega)]
  by_cases h : i < 0
  · rw [if_pos h, if_pos h]
  · rw [if_neg h, if_neg h, show max 0 i = i by omega]
theorem tells0 (l f : List S76) (s : List S55) (fr : Int) (hl : l.length ≤ 40) (hf : f.length ≤ 40) (hs : s.length ≤ 40) (hfr : fr ≤ 2^63 - 1) : ∀ (d k : Nat) (i : Int), -1 ≤ i → ((l.length : Int) + 1 - i).toNat = d → d + 310 < k →
    twainlaw16_WaitTells.l0 k l f s fr (l.map conv) (f.map conv) i = some true := by
  intro d
  induction d with
  | zero =>
    intro k i h0 hi hk
    obtain ⟨k, rfl⟩ : ∃ j, k = j + 1 := ⟨k - 1, by omega⟩
    simp only [twainlaw16_WaitTells.l0]
    rw [if_neg (by omega), first_p l f s fr hl hfr k (by omega), rfirst_p l f s fr hl hf hs k (by omega), Option.bind_some, Option.bind_some, if_pos rfl, if_pos (by simp), may_p, ref_may_p l f s fr hl hf hs k (by omega), Option.bind_some, Option.bind_some, if_pos (by simp), lives_p, Option.bind_some]
  | succ d ih =>
    intro k i h0 hi hk
    obtain ⟨k, rfl⟩ : ∃ j, k = j + 1 := ⟨k - 1, by omega⟩
    simp only [twainlaw16_WaitTells.l0]
    rw [if_pos (by omega), may_p, ref_may_p l f s i hl hf hs k (by omega), Option.bind_some, Option.bind_some, if_neg (by simp), WaitPure.add_one _ (by omega) (by omega), ih k (i + 1) (by omega) (by omega) (by omega)]
theorem tells_p (l f : List S76) (s : List S55) (fr : Int) (hfr : fr ≤ 2^63 - 1) : twainlaw16_WaitTells.f 500 l f s fr = some true := by
  have jt : twainlaw16_WaitTells.j0 500 l f s fr true = some true := by
    simp only [twainlaw16_WaitTells.j0]
    rw [if_pos trivial, lives_p, Option.bind_some]
  unfold twainlaw16_WaitTells.f
  by_cases h1 : (l.length : Int) > 40
  · rw [if_pos h1, jt]
  · rw [if_neg h1]
    by_cases h2 : (f.length : Int) > 40
    · rw [if_pos h2, jt]
    · rw [if_neg h2]
      by_cases h3 : (s.length : Int) > 40
      · rw [show decide ((s.length : Int) > 40) = true by simpa using h3, jt]
      · rw [show decide ((s.length : Int) > 40) = false by simpa using h3]
        simp only [twainlaw16_WaitTells.j0]
        rw [if_neg (by simp), items_p l (by omega) _ (by omega), items_p f (by omega) _ (by omega), Option.bind_some, Option.bind_some]
        exact tells0 l f s fr (by omega) (by omega) (by omega) hfr _ _ (-1) (by omega) rfl (by omega)
theorem i64_of {x : Int} (h : (Lit.int .i64 x).wf = true) : -9223372036854775808 ≤ x ∧ x ≤ 9223372036854775807 := by
  simp [Lit.wf, IntKind.min, IntKind.max, IntKind.signed, IntKind.bits] at h
  exact h
end Go.Proofs.Yteclkapffhjddaa.WaitTells
