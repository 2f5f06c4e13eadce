/-
  The statements of layer 3 as plain facts: the program's sum, by half bytes, is the reference's, by bits; a sum goes on; a burst is seen.
-/
import Derived.Test.YtafgaekpmnheoaaCrcx2
import Derived.Test.YtafgaekpmnheoaaCrcPlain
import Derived.Laws.BitsAllLaws
namespace Go.Proofs.Ytafgaekpmnheoaa.CrcPure
open Go.RowKit Go.Proofs.Ytafgaekpmnheoaa.Crc Go.Proofs.Ytafgaekpmnheoaa.CrcPlain Go.Proofs.YtafgaekpmnheoaaW.PrintWords

theorem wrap_small (i : Int) (h0 : 0 ≤ i) (h1 : i < 1000000) : wrap64 (i + 1) = i + 1 := by unfold wrap64; omega
theorem half_nat : ∀ n, n < 16 → half_tab.getD n 0 = ((half n : Nat) : Int) := by decide
theorem half_lt (n : Nat) : half n < 2 ^ 32 := by
  by_cases h : n < 16
  · rw [← L4_low n h]; exact L4_lt _ (by omega)
  · unfold half
    rw [List.getD_eq_getElem?_getD, List.getElem?_eq_none (by simp; omega)]
    decide
theorem half_step (x : Nat) : crc_half.f ((x : Int) % 256) = some ((half (x % 16) : Nat) : Int) := by
  unfold crc_half.f
  rw [if_pos (by omega), show ((x : Int) % 256 % 16).toNat = x % 16 by omega, half_nat _ (Nat.mod_lt _ (by omega))]
theorem turn (x : Nat) (hx : x < 2 ^ 32) : Go.bits .xor .u32 ((x : Int) / 16) ((half (x % 16) : Nat) : Int) = ((L4 x : Nat) : Int) := by
  rw [show (x : Int) / 16 = ((x / 16 : Nat) : Int) by omega, u32_xor_nat _ _ (by omega) (by have := half_lt (x % 16); omega), L4_eq]
theorem xor_in (x c : Nat) (hx : x < 2 ^ 32) (hc : c < 256) : Go.bits .xor .u32 (x : Int) ((c : Int) % 4294967296) = ((x ^^^ c : Nat) : Int) := by
  rw [show (c : Int) % 4294967296 = (c : Int) by omega, u32_xor_nat _ _ (by omega) (by omega)]
theorem xc_lt (x c : Nat) (hx : x < 2 ^ 32) (hc : c < 256) : x ^^^ c < 2 ^ 32 := Nat.xor_lt_two_pow hx (by omega)
theorem step_p (k : Nat) (x c : Nat) (hx : x < 2 ^ 32) (hc : c < 256) : crc_Step.f (k + 3) x c = some ((L8 (x ^^^ c) : Nat) : Int) := by
  unfold crc_Step.f
  rw [xor_in x c hx hc]
  have h1 := xc_lt x c hx hc
  simp only [crc_Step.l0]
  rw [if_pos (by decide), half_step]
  simp only [Option.bind_some]
  rw [turn _ h1, wrap_small 0 (by omega) (by omega), if_pos (by decide), half_step]
  simp only [Option.bind_some]
  rw [turn _ (L4_lt _ h1), wrap_small (0 + 1) (by omega) (by omega), if_neg (by decide)]
  rfl
theorem ref_one (x : Nat) (hx : x < 2 ^ 32) (k : Nat) (i : Int) (h0 : 0 ≤ i) (h8 : i < 8) : twainref03_Step.l0 (k + 1) x i = twainref03_Step.l0 k ((step1 x : Nat) : Int) (i + 1) := by
  simp only [twainref03_Step.l0]
  rw [if_pos h8, wrap_small i h0 (by omega)]
  have e1 : Int.tmod (x : Int) 2 = ((x % 2 : Nat) : Int) := by rw [Int.tmod_eq_emod_of_nonneg (by omega)]; omega
  have e2 : Int.tdiv (x : Int) 2 % 4294967296 = ((x / 2 : Nat) : Int) := by rw [Int.tdiv_eq_ediv_of_nonneg (by omega)]; omega
  rw [e1, e2]
  unfold step1
  by_cases h : x % 2 = 1
  · rw [if_pos (by omega), if_pos h]
    have := u32_xor_nat (x / 2) 3988292384 (by omega) (by omega)
    rw [show (3988292384 : Int) = ((3988292384 : Nat) : Int) from rfl, this]
  · rw [if_neg (by omega), if_neg h]
theorem step_r (k : Nat) (x c : Nat) (hx : x < 2 ^ 32) (hc : c < 256) : twainref03_Step.f (k + 9) x c = some ((L8 (x ^^^ c) : Nat) : Int) := by
  unfold twainref03_Step.f
  rw [xor_in x c hx hc]
  have h1 := xc_lt x c hx hc
  have s := step1_lt
  rw [ref_one _ h1 _ 0 (by omega) (by omega), ref_one _ (s _ h1) _ _ (by omega) (by omega), ref_one _ (s _ (s _ h1)) _ _ (by omega) (by omega), ref_one _ (s _ (s _ (s _ h1))) _ _ (by omega) (by omega),
    show step1 (step1 (step1 (step1 (x ^^^ c)))) = L4 (x ^^^ c) from rfl, ref_one _ (L4_lt _ h1) _ _ (by omega) (by omega), ref_one _ (s _ (L4_lt _ h1)) _ _ (by omega) (by omega), ref_one _ (s _ (s _ (L4_lt _ h1))) _ _ (by omega) (by omega), ref_one _ (s _ (s _ (s _ (L4_lt _ h1)))) _ _ (by omega) (by omega)]
  simp only [twainref03_Step.l0]
  rw [if_neg (by omega)]
  rfl

theorem step_p' (q : Nat) (x c : Nat) (hx : x < 2 ^ 32) (hc : c < 256) (hq : 3 ≤ q) : crc_Step.f q x c = some ((L8 (x ^^^ c) : Nat) : Int) := by
  obtain ⟨k, rfl⟩ : ∃ k, q = k + 3 := ⟨q - 3, by omega⟩
  exact step_p k x c hx hc
theorem step_r' (q : Nat) (x c : Nat) (hx : x < 2 ^ 32) (hc : c < 256) (hq : 9 ≤ q) : twainref03_Step.f q x c = some ((L8 (x ^^^ c) : Nat) : Int) := by
  obtain ⟨k, rfl⟩ : ∃ k, q = k + 9 := ⟨q - 9, by omega⟩
  exact step_r k x c hx hc
/-- bytes as plain numbers -/
def Bytes (l : List Int) (ns : List Nat) : Prop := l = ns.map (fun (n : Nat) => (n : Int)) ∧ ∀ n ∈ ns, n < 256
theorem bytes_of (l : List Int) (h : ∀ x ∈ l, (Lit.int .u8 x).wf = true) : ∃ ns, Bytes l ns := by
  refine ⟨l.map Int.toNat, ?_, ?_⟩
  · rw [List.map_map]
    conv => lhs; rw [← List.map_id l]
    apply List.map_congr_left
    intro x hx
    have := h x hx
    simp [Lit.wf, IntKind.min, IntKind.max, IntKind.signed, IntKind.bits] at this
    simp; omega
  · intro n hn
    obtain ⟨x, hx, rfl⟩ := List.mem_map.1 hn
    have := h x hx
    simp [Lit.wf, IntKind.min, IntKind.max, IntKind.signed, IntKind.bits] at this
    omega
theorem rd_at {l : List Int} {ns : List Nat} (h : Bytes l ns) (i : Nat) (hi : i < ns.length) : rd l (i : Int) = ((ns[i] : Nat) : Int) := by
  unfold rd
  rw [h.1, Int.toNat_natCast, List.getD_eq_getElem?_getD]
  simp [hi]
theorem run_step (x : Nat) (ns : List Nat) (i : Nat) (hi : i < ns.length) : run x (ns.drop i) = run (L8 (x ^^^ ns[i])) (ns.drop (i + 1)) := by
  rw [List.drop_eq_getElem_cons hi]
  rfl
theorem more_p (l : List Int) (ns : List Nat) (h : Bytes l ns) (hl : ns.length < 1000000) (d : Nat) : ∀ (k i x : Nat), x < 2 ^ 32 → i + d = ns.length → d + 4 ≤ k →
    crc_More.l0 k l x (ns.length : Int) (i : Int) = some (((run x (ns.drop i)) ^^^ 4294967295 : Nat) : Int) := by
  have hlen : l.length = ns.length := by rw [h.1, List.length_map]
  induction d with
  | zero =>
    intro k i x hx hi hk
    obtain ⟨k, rfl⟩ : ∃ m, k = m + 1 := ⟨k - 1, by omega⟩
    simp only [crc_More.l0]
    rw [if_neg (by omega), show (4294967295 : Int) = ((4294967295 : Nat) : Int) from rfl, u32_xor_nat _ _ (by omega) (by omega), List.drop_eq_nil_of_le (by omega)]
    rfl
  | succ d ih =>
    intro k i x hx hi hk
    obtain ⟨k, rfl⟩ : ∃ m, k = m + 1 := ⟨k - 1, by omega⟩
    have hi' : i < ns.length := by omega
    have hc := h.2 _ (List.getElem_mem hi')
    simp only [crc_More.l0]
    rw [if_pos (by omega), if_pos (by omega), if_pos (by omega), rd_at h i hi', step_p' k x _ hx hc (by omega)]
    simp only [Option.bind_some]
    rw [wrap_small i (by omega) (by omega), show (i : Int) + 1 = ((i + 1 : Nat) : Int) by omega, ih _ _ _ (L8_lt _ (xc_lt _ _ hx hc)) (by omega) (by omega), run_step x ns i hi']
theorem more_r (l : List Int) (ns : List Nat) (h : Bytes l ns) (hl : ns.length < 1000000) (d : Nat) : ∀ (k i x : Nat), x < 2 ^ 32 → i + d = ns.length → d + 10 ≤ k →
    twainref03_More.l0 k x l (ns.length : Int) (i : Int) = some (((run x (ns.drop i)) ^^^ 4294967295 : Nat) : Int) := by
  have hlen : l.length = ns.length := by rw [h.1, List.length_map]
  induction d with
  | zero =>
    intro k i x hx hi hk
    obtain ⟨k, rfl⟩ : ∃ m, k = m + 1 := ⟨k - 1, by omega⟩
    simp only [twainref03_More.l0]
    rw [if_neg (by omega), show (4294967295 : Int) = ((4294967295 : Nat) : Int) from rfl, u32_xor_nat _ _ (by omega) (by omega), List.drop_eq_nil_of_le (by omega)]
    rfl
  | succ d ih =>
    intro k i x hx hi hk
    obtain ⟨k, rfl⟩ : ∃ m, k = m + 1 := ⟨k - 1, by omega⟩
    have hi' : i < ns.length := by omega
    have hc := h.2 _ (List.getElem_mem hi')
    simp only [twainref03_More.l0]
    rw [if_pos (by omega), if_pos (by omega), if_pos (by omega), rd_at h i hi', step_r' k x _ hx hc (by omega)]
    simp only [Option.bind_some]
    rw [wrap_small i (by omega) (by omega), show (i : Int) + 1 = ((i + 1 : Nat) : Int) by omega, ih _ _ _ (L8_lt _ (xc_lt _ _ hx hc)) (by omega) (by omega), run_step x ns i hi']
/-- the sum behind a sum -/
def sumOf (s : Nat) (ns : List Nat) : Nat := (run (s ^^^ 4294967295) ns) ^^^ 4294967295
theorem all_lt (s : Nat) (hs : s < 2 ^ 32) : s ^^^ 4294967295 < 2 ^ 32 := Nat.xor_lt_two_pow hs (by omega)
theorem sum_lt (s : Nat) (ns : List Nat) (hs : s < 2 ^ 32) (hn : ∀ n ∈ ns, n < 256) : sumOf s ns < 2 ^ 32 := Nat.xor_lt_two_pow (run_lt ns _ (all_lt s hs) hn) (by omega)
theorem more_pf (l : List Int) (ns : List Nat) (h : Bytes l ns) (hl : ns.length < 1000000) (s : Nat) (hs : s < 2 ^ 32) (k : Nat) (hk : ns.length + 10 ≤ k) : crc_More.f k s l = some ((sumOf s ns : Nat) : Int) := by
  unfold crc_More.f sumOf
  rw [show (4294967295 : Int) = ((4294967295 : Nat) : Int) from rfl, u32_xor_nat _ _ (by omega) (by omega)]
  have hlen : l.length = ns.length := by rw [h.1, List.length_map]
  rw [hlen]
  exact more_p l ns h hl ns.length k 0 _ (all_lt s hs) (by omega) (by omega)
theorem more_rf (l : List Int) (ns : List Nat) (h : Bytes l ns) (hl : ns.length < 1000000) (s : Nat) (hs : s < 2 ^ 32) (k : Nat) (hk : ns.length + 10 ≤ k) : twainref03_More.f k s l = some ((sumOf s ns : Nat) : Int) := by
  unfold twainref03_More.f sumOf
  rw [show (4294967295 : Int) = ((4294967295 : Nat) : Int) from rfl, u32_xor_nat _ _ (by omega) (by omega)]
  have hlen : l.length = ns.length := by rw [h.1, List.length_map]
  rw [hlen]
  exact more_r l ns h hl ns.length k 0 _ (all_lt s hs) (by omega) (by omega)
theorem sum_pf (l : List Int) (ns : List Nat) (h : Bytes l ns) (hl : ns.length < 1000000) (k : Nat) (hk : ns.length + 10 ≤ k) : crc_Sum.f k l = some ((sumOf 0 ns : Nat) : Int) := by
  unfold crc_Sum.f
  rw [show (0 : Int) = ((0 : Nat) : Int) from rfl, more_pf l ns h hl 0 (by omega) k hk]
  rfl
theorem sum_rf (l : List Int) (ns : List Nat) (h : Bytes l ns) (hl : ns.length < 1000000) (k : Nat) (hk : ns.length + 10 ≤ k) : twainref03_Sum.f k l = some ((sumOf 0 ns : Nat) : Int) := by
  unfold twainref03_Sum.f
  rw [show (0 : Int) = ((0 : Nat) : Int) from rfl, more_rf l ns h hl 0 (by omega) k hk]
  rfl
theorem u32_of {x : Int} (h : (Lit.int .u32 x).wf = true) : ∃ n : Nat, x = n ∧ n < 2 ^ 32 := by
  simp [Lit.wf, IntKind.min, IntKind.max, IntKind.signed, IntKind.bits] at h
  exact ⟨x.toNat, by omega, by omega⟩
theorem u8_of {x : Int} (h : (Lit.int .u8 x).wf = true) : ∃ n : Nat, x = n ∧ n < 256 := by
  simp [Lit.wf, IntKind.min, IntKind.max, IntKind.signed, IntKind.bits] at h
  exact ⟨x.toNat, by omega, by omega⟩

theorem CrcSums (l0 : List Int) (a1 : Int) (h0 : ∀ x ∈ l0, (Lit.int .u8 x).wf = true) (h1 : (Lit.int .u32 a1).wf = true) : ∃ k, twainlaw03_CrcSums.f k l0 a1 = some true := by
  obtain ⟨ns, hb⟩ := bytes_of l0 h0
  obtain ⟨s, rfl, hs⟩ := u32_of h1
  have hlen : l0.length = ns.length := by rw [hb.1, List.length_map]
  refine ⟨ns.length + 10, ?_⟩
  unfold twainlaw03_CrcSums.f
  by_cases hl : (l0.length : Int) > 4000
  · rw [if_pos hl]; rfl
  · rw [if_neg hl, sum_pf l0 ns hb (by omega) _ (by omega), sum_rf l0 ns hb (by omega) _ (by omega)]
    simp only [Option.bind_some]
    rw [if_pos trivial, more_pf l0 ns hb (by omega) s hs _ (by omega), more_rf l0 ns hb (by omega) s hs _ (by omega)]
    simp only [Option.bind_some]
    rw [if_pos trivial]; rfl
theorem CrcSteps (a0 a1 : Int) (h0 : (Lit.int .u32 a0).wf = true) (h1 : (Lit.int .u8 a1).wf = true) : ∃ k, twainlaw03_CrcSteps.f k a0 a1 = some true := by
  obtain ⟨x, rfl, hx⟩ := u32_of h0
  obtain ⟨c, rfl, hc⟩ := u8_of h1
  refine ⟨9, ?_⟩
  unfold twainlaw03_CrcSteps.f
  rw [step_p 6 x c hx hc, step_r 0 x c hx hc]
  simp only [Option.bind_some]
  rw [if_pos trivial]; rfl
theorem sum_goes_on (a b : List Nat) : sumOf (sumOf 0 a) b = sumOf 0 (a ++ b) := by
  unfold sumOf
  rw [Nat.xor_assoc, Nat.xor_self, Nat.xor_zero, run_append]
theorem CrcMore (l0 l1 : List Int) (h0 : ∀ x ∈ l0, (Lit.int .u8 x).wf = true) (h1 : ∀ x ∈ l1, (Lit.int .u8 x).wf = true) : ∃ k, twainlaw03_CrcMore.f k l0 l1 = some true := by
  obtain ⟨ns, hb⟩ := bytes_of l0 h0
  obtain ⟨ms, hc⟩ := bytes_of l1 h1
  have hlen : l0.length = ns.length := by rw [hb.1, List.length_map]
  have hlen1 : l1.length = ms.length := by rw [hc.1, List.length_map]
  refine ⟨ns.length + ms.length + 11, ?_⟩
  unfold twainlaw03_CrcMore.f
  by_cases hl : (l0.length : Int) > 4000
  · rw [if_pos hl]; rfl
  · rw [if_neg hl]
    by_cases hl1 : (l1.length : Int) > 4000
    · rw [decide_eq_true hl1]; rfl
    · rw [decide_eq_false hl1]
      simp only [twainlaw03_CrcMore.j0]
      rw [if_neg (by decide)]
      simp only [Option.bind_some, List.nil_append, List.length_nil]
      have hcat : Bytes (l0 ++ l1) (ns ++ ms) := ⟨by rw [hb.1, hc.1, List.map_append], fun n hn => (List.mem_append.1 hn).elim (hb.2 n) (hc.2 n)⟩
      rw [if_pos (by omega), if_pos (by omega), sum_pf l0 ns hb (by omega) _ (by omega)]
      simp only [Option.bind_some]
      rw [more_pf l1 ms hc (by omega) _ (sum_lt 0 ns (by omega) hb.2) _ (by omega)]
      simp only [Option.bind_some]
      rw [sum_pf _ _ hcat (by rw [List.length_append]; omega) _ (by rw [List.length_append]; omega)]
      simp only [Option.bind_some]
      rw [if_pos (by rw [sum_goes_on])]; rfl
theorem bytes_set {l : List Int} {ns : List Nat} (h : Bytes l ns) (i v : Nat) (hv : v < 256) : Bytes (l.set i (v : Int)) (ns.set i v) := by
  refine ⟨by rw [h.1, List.map_set], fun n hn => ?_⟩
  rcases List.mem_or_eq_of_mem_set hn with hn | rfl
  · exact h.2 n hn
  · exact hv
theorem burst_round (k : Nat) (x0 l : List Int) (ms : List Nat) (h : Bytes l ms) (p i y : Nat) (hi : i < 4) (hp : p + i < ms.length) (hlen : ms.length ≤ 4000) (hy : y < 2 ^ 32) :
    ∃ l', Bytes l' (ms.set (p + i) (ms[p + i] ^^^ (y % 256))) ∧ twainlaw03_CrcBurst.l0 (k + 1) x0 (p : Int) l (y : Int) (i : Int) = twainlaw03_CrcBurst.l0 k x0 (p : Int) l' ((y / 256 : Nat) : Int) ((i + 1 : Nat) : Int) := by
  have hll : l.length = ms.length := by rw [h.1, List.length_map]
  have hb := h.2 _ (List.getElem_mem hp)
  have hx : ms[p + i] ^^^ (y % 256) < 256 := Nat.xor_lt_two_pow (n := 8) hb (Nat.mod_lt _ (by omega))
  refine ⟨_, bytes_set h (p + i) _ hx, ?_⟩
  have e0 : wrap64 ((p : Int) + (i : Int)) = ((p + i : Nat) : Int) := by unfold wrap64; omega
  have e1 : Int.tmod (y : Int) 256 % 256 = ((y % 256 : Nat) : Int) := by rw [Int.tmod_eq_emod_of_nonneg (by omega)]; omega
  have e2 : Int.tdiv (y : Int) 256 % 4294967296 = ((y / 256 : Nat) : Int) := by rw [Int.tdiv_eq_ediv_of_nonneg (by omega)]; omega
  simp only [twainlaw03_CrcBurst.l0]
  rw [if_pos (by omega), e0, if_pos (by omega), if_pos (by omega), rd_at h (p + i) hp, e1, e2, u8_xor_nat _ _ hb (Nat.mod_lt _ (by omega)), wrap_small i (by omega) (by omega), Int.toNat_natCast]
  rfl
theorem four (ns : List Nat) (p : Nat) (h : p + 4 ≤ ns.length) : ∃ (pre post : List Nat) (a b c d : Nat), ns = pre ++ ([a, b, c, d] ++ post) ∧ pre.length = p := by
  refine ⟨ns.take p, ns.drop (p + 4), ns[p], ns[p + 1], ns[p + 2], ns[p + 3], ?_, by simp; omega⟩
  conv => lhs; rw [← List.take_append_drop p ns]
  congr 1
  rw [List.drop_eq_getElem_cons (show p < ns.length by omega), List.drop_eq_getElem_cons (show p + 1 < ns.length by omega), List.drop_eq_getElem_cons (show p + 1 + 1 < ns.length by omega), List.drop_eq_getElem_cons (show p + 1 + 1 + 1 < ns.length by omega)]
  rfl
theorem CrcBurst (l0 : List Int) (a1 a2 : Int) (h0 : ∀ x ∈ l0, (Lit.int .u8 x).wf = true) (h1 : (Lit.int .i64 a1).wf = true) (h2 : (Lit.int .u32 a2).wf = true) : ∃ k, twainlaw03_CrcBurst.f k l0 a1 a2 = some true := by
  obtain ⟨ns, hb⟩ := bytes_of l0 h0
  obtain ⟨y, rfl, hy⟩ := u32_of h2
  have hlen : l0.length = ns.length := by rw [hb.1, List.length_map]
  refine ⟨ns.length + 20, ?_⟩
  unfold twainlaw03_CrcBurst.f
  by_cases hl : (l0.length : Int) > 4000
  · rw [if_pos hl]; simp only [twainlaw03_CrcBurst.j0]; rfl
  · rw [if_neg hl]
    by_cases ha : a1 < 0
    · rw [if_pos ha]; simp only [twainlaw03_CrcBurst.j0]; rfl
    · rw [if_neg ha, show wrap64 ((l0.length : Int) - 4) = (l0.length : Int) - 4 by unfold wrap64; omega]
      by_cases hg : a1 > (l0.length : Int) - 4
      · rw [if_pos hg]; simp only [twainlaw03_CrcBurst.j0]; rfl
      · rw [if_neg hg]
        by_cases hz : y = 0
        · subst hz
          simp only [twainlaw03_CrcBurst.j0]; rfl
        · obtain ⟨p, rfl⟩ := Int.eq_ofNat_of_zero_le (show 0 ≤ a1 by omega)
          have hp : p + 4 ≤ ns.length := by omega
          have hz' : ((y : Int) == 0) = false := by simp; omega
          rw [hz', show ns.length + 20 = (ns.length + 15) + 1 + 1 + 1 + 1 + 1 by omega]
          generalize hK : ns.length + 15 = K
          simp only [twainlaw03_CrcBurst.j0]
          rw [if_neg (by decide)]
          simp only [Option.bind_some, List.nil_append, List.length_nil]
          rw [if_pos (by omega), show (0 : Int) = ((0 : Nat) : Int) from rfl]
          obtain ⟨pre, post, a, b, c, d, rfl, rfl⟩ := four ns p hp
          have hm : (pre ++ ([a, b, c, d] ++ post)).length ≤ 4000 := by omega
          have n4 : (pre ++ ([a, b, c, d] ++ post)).length = pre.length + 4 + post.length := by simp; omega
          have hin := hb.2
          have ba := hin a (by simp)
          have bb := hin b (by simp)
          have bc := hin c (by simp)
          have bd := hin d (by simp)
          obtain ⟨q1, g1, r1⟩ := burst_round (K + 3) l0 l0 _ hb pre.length 0 y (by omega) (by omega) hm hy
          have s1 : (pre ++ ([a, b, c, d] ++ post)).set (pre.length + 0) ((pre ++ ([a, b, c, d] ++ post))[pre.length + 0] ^^^ (y % 256)) = pre ++ ([a ^^^ (y % 256), b, c, d] ++ post) := by simp
          rw [s1] at g1
          obtain ⟨q2, g2, r2⟩ := burst_round (K + 2) l0 q1 _ g1 pre.length 1 (y / 256) (by omega) (by simp) (by simp at hm ⊢; omega) (by omega)
          have s2 : (pre ++ ([a ^^^ (y % 256), b, c, d] ++ post)).set (pre.length + 1) ((pre ++ ([a ^^^ (y % 256), b, c, d] ++ post))[pre.length + 1]'(by simp) ^^^ (y / 256 % 256)) = pre ++ ([a ^^^ (y % 256), b ^^^ (y / 256 % 256), c, d] ++ post) := by simp
          rw [s2] at g2
          obtain ⟨q3, g3, r3⟩ := burst_round (K + 1) l0 q2 _ g2 pre.length 2 (y / 256 / 256) (by omega) (by simp) (by simp at hm ⊢; omega) (by omega)
          have s3 : (pre ++ ([a ^^^ (y % 256), b ^^^ (y / 256 % 256), c, d] ++ post)).set (pre.length + 2) ((pre ++ ([a ^^^ (y % 256), b ^^^ (y / 256 % 256), c, d] ++ post))[pre.length + 2]'(by simp) ^^^ (y / 256 / 256 % 256)) = pre ++ ([a ^^^ (y % 256), b ^^^ (y / 256 % 256), c ^^^ (y / 256 / 256 % 256), d] ++ post) := by simp
          rw [s3] at g3
          obtain ⟨q4, g4, r4⟩ := burst_round K l0 q3 _ g3 pre.length 3 (y / 256 / 256 / 256) (by omega) (by simp) (by simp at hm ⊢; omega) (by omega)
          have s4 : (pre ++ ([a ^^^ (y % 256), b ^^^ (y / 256 % 256), c ^^^ (y / 256 / 256 % 256), d] ++ post)).set (pre.length + 3) ((pre ++ ([a ^^^ (y % 256), b ^^^ (y / 256 % 256), c ^^^ (y / 256 / 256 % 256), d] ++ post))[pre.length + 3]'(by simp) ^^^ (y / 256 / 256 / 256 % 256)) = pre ++ ([a ^^^ (y % 256), b ^^^ (y / 256 % 256), c ^^^ (y / 256 / 256 % 256), d ^^^ (y / 256 / 256 / 256 % 256)] ++ post) := by simp
          rw [s4] at g4
          rw [show K + 1 + 1 + 1 + 1 = (K + 3) + 1 from rfl, r1, show K + 3 = (K + 2) + 1 from rfl, r2, show K + 2 = (K + 1) + 1 from rfl, r3, r4]
          obtain ⟨M, rfl⟩ : ∃ M, K = M + 1 := ⟨K - 1, by omega⟩
          simp only [twainlaw03_CrcBurst.l0]
          rw [if_neg (by omega), sum_pf q4 _ g4 (by simp at hm ⊢; omega) M (by simp at hK hm ⊢; omega), sum_pf l0 _ hb (by omega) M (by omega)]
          simp only [Option.bind_some]
          rw [if_neg ?_]
          · rfl
          · intro he
            have he2 : run (0 ^^^ 4294967295) (pre ++ ([a, b, c, d] ++ post)) = run (0 ^^^ 4294967295) (pre ++ ([a ^^^ (y % 256), b ^^^ (y / 256 % 256), c ^^^ (y / 256 / 256 % 256), d ^^^ (y / 256 / 256 / 256 % 256)] ++ post)) := by
              have h3 : sumOf 0 (pre ++ ([a ^^^ (y % 256), b ^^^ (y / 256 % 256), c ^^^ (y / 256 / 256 % 256), d ^^^ (y / 256 / 256 / 256 % 256)] ++ post)) = sumOf 0 (pre ++ ([a, b, c, d] ++ post)) := by omega
              unfold sumOf at h3
              have h4 := congrArg (fun z => z ^^^ 4294967295) h3
              simpa [Nat.xor_assoc] using h4.symm
            exact burst _ (all_lt 0 (by omega)) pre post a b c d y (fun n hn => hin n (by simp [hn])) (fun n hn => hin n (by simp [hn])) ba bb bc bd hy hz he2
end Go.Proofs.Ytafgaekpmnheoaa.CrcPure
