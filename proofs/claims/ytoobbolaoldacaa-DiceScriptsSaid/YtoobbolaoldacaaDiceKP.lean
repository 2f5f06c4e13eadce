/-
  Dice: what is thrown may be, as plain facts (printed by tools/mkdicekp.py).
-/
import Derived.Test.YtoobbolaoldacaaDiceM
namespace Go.Proofs.Ytoobbolaoldacaa.DiceW
open Go.RowKit Go.Proofs.Ytoobbolaoldacaa Go.Proofs.Ytoobbolaoldacaa.Dice Go.Proofs.Ytoobbolaoldacaa.DiceP Go.Proofs.Ytoobbolaoldacaa.RowOwn Go.Proofs.YtoobbolaoldacaaW.PrintWords Go.Proofs.YtoobbolaoldacaaW.PrintLast Go.Proofs.YtoobbolaoldacaaW.PrintMore
set_option linter.unusedVariables false
def wAt (a0 a1 a2 a3 a4 a5 a6 a7 k : Int) : Int := if k = 0 then a0 else if k = 1 then a1 else if k = 2 then a2 else if k = 3 then a3 else if k = 4 then a4 else if k = 5 then a5 else if k = 6 then a6 else a7
theorem kind8_wt {a0 a1 a2 a3 a4 a5 a6 a7 t : Int} (h : All8 a0 a1 a2 a3 a4 a5 a6 a7) (h0 : 0 ≤ t) (h1 : t < a0 + a1 + a2 + a3 + a4 + a5 + a6 + a7) : wAt a0 a1 a2 a3 a4 a5 a6 a7 (kind8 a0 a1 a2 a3 a4 a5 a6 a7 t) ≠ 0 := by
  unfold All8 Wt at h
  unfold kind8
  by_cases h2 : t < a0
  · rw [if_pos h2]
    show a0 ≠ 0
    omega
  rw [if_neg h2]
  by_cases h3 : t - a0 < a1
  · rw [if_pos h3]
    show a1 ≠ 0
    omega
  rw [if_neg h3]
  by_cases h4 : t - a0 - a1 < a2
  · rw [if_pos h4]
    show a2 ≠ 0
    omega
  rw [if_neg h4]
  by_cases h5 : t - a0 - a1 - a2 < a3
  · rw [if_pos h5]
    show a3 ≠ 0
    omega
  rw [if_neg h5]
  by_cases h6 : t - a0 - a1 - a2 - a3 < a4
  · rw [if_pos h6]
    show a4 ≠ 0
    omega
  rw [if_neg h6]
  by_cases h7 : t - a0 - a1 - a2 - a3 - a4 < a5
  · rw [if_pos h7]
    show a5 ≠ 0
    omega
  rw [if_neg h7]
  by_cases h8 : t - a0 - a1 - a2 - a3 - a4 - a5 < a6
  · rw [if_pos h8]
    show a6 ≠ 0
    omega
  rw [if_neg h8]
  by_cases h9 : t - a0 - a1 - a2 - a3 - a4 - a5 - a6 < a7
  · rw [if_pos h9]
    show a7 ≠ 0
    omega
  rw [if_neg h9]
  omega
/-- a request that may be, where there are so many sectors -/
def RqOk (s : Int) (r : Rq) : Prop :=
  (r.kd = 0 ∧ r.data.length = 0 ∧ 0 ≤ r.off ∧ 1 ≤ r.len ∧ r.len ≤ 8 ∧ r.off + r.len ≤ s) ∨ (r.kd = 1 ∧ (r.data.length : Int) = r.len * 16 ∧ 0 ≤ r.off ∧ 1 ≤ r.len ∧ r.len ≤ 8 ∧ r.off + r.len ≤ s) ∨ (r.kd = 2 ∧ r.data.length = 0 ∧ r.off = 0 ∧ r.len = 0)
theorem dataN_len : ∀ (n x : Nat), (dataN n x).1.length = 16 * n
  | 0, _ => rfl
  | n + 1, x => by
    rw [dataN_succ, List.length_append, List.length_replicate, dataN_len n]
    omega
theorem span_in {s : Int} (x : Nat) (hs : 1 ≤ s) : 0 ≤ spanO s x ∧ 1 ≤ spanL s x ∧ spanL s x ≤ 8 ∧ spanO s x + spanL s x ≤ s := by
  have h1 := spanL_ge s x
  have h2 := spanL_le x hs
  have h3 : spanL s x ≤ s := by
    unfold spanL
    split
    · have := lessN_lt (n := s) (x := x) hs; omega
    · have := lessN_lt (n := 8) (x := x) (by decide); omega
  unfold spanO
  generalize spanX s x = y
  generalize spanL s x = L at h1 h2 h3
  have h4 := lessN_le (n := s - L + 1) (x := y)
  have h5 := lessN_lt (n := s - L + 1) (x := y) (by omega)
  omega
theorem pick3 {p1 p2 : Prop} [Decidable p1] [Decidable p2] {s : Int} {r1 r2 r3 : Rq} {n1 n2 n3 : Nat} (h1 : RqOk s r1) (h2 : RqOk s r2) (h3 : RqOk s r3) : RqOk s (if p1 then (r1, n1) else if p2 then (r2, n2) else (r3, n3)).1 := by
  split
  · exact h1
  · split
    · exact h2
    · exact h3
theorem reqN_ok {s : Int} (x : Nat) (hs : 1 ≤ s) : RqOk s (reqN s x).1 := by
  have h1 := span_in (lessS 5 x) hs
  have hd := dataN_len (spanL s (lessS 5 x)).toNat (spanS s (lessS 5 x))
  unfold reqN
  generalize lessS 5 x = y at h1 hd
  generalize lessN 5 x = t
  generalize spanO s y = O at h1
  generalize spanS s y = z at hd
  generalize spanL s y = L at h1 hd
  generalize dataN L.toNat z = dd at hd
  refine pick3 ?_ ?_ ?_
  · exact .inl ⟨rfl, rfl, h1.1, h1.2.1, h1.2.2.1, h1.2.2.2⟩
  · exact .inr (.inl ⟨rfl, by show (dd.1.length : Int) = L * 16; omega, h1.1, h1.2.1, h1.2.2.1, h1.2.2.2⟩)
  · exact .inr (.inr ⟨rfl, rfl, rfl, rfl⟩)
/-- an act that may be -/
def AcOk (s : Int) (a0 a1 a2 a3 a4 a5 a6 a7 : Int) (a : Ac) : Prop :=
  (0 ≤ a.kind ∧ a.kind ≤ 7 ∧ wAt a0 a1 a2 a3 a4 a5 a6 a7 a.kind ≠ 0) ∧ (0 ≤ a.who ∧ a.who ≤ 1) ∧ (0 ≤ a.at_ ∧ a.at_ ≤ 11) ∧ (RqOk s a.r ∨ a.kind ≠ 0 ∧ a.r = rq0)
theorem pick5 {P : Ac → Prop} {p1 p2 p3 p4 : Prop} [Decidable p1] [Decidable p2] [Decidable p3] [Decidable p4] {A1 A2 A3 A4 A5 : Ac} {n1 n2 n3 n4 n5 : Nat} (h1 : p1 → P A1) (h2 : ¬ p1 → P A2) (h3 : ¬ p1 → P A3) (h4 : ¬ p1 → P A4) (h5 : ¬ p1 → P A5) :
    P (if p1 then (A1, n1) else if p2 then (A2, n2) else if p3 then (A3, n3) else if p4 then (A4, n4) else (A5, n5)).1 := by
  split
  · exact h1 ‹_›
  · split
    · exact h2 ‹_›
    · split
      · exact h3 ‹_›
      · split
        · exact h4 ‹_›
        · exact h5 ‹_›
theorem fill_gen {s kind who : Int} {a0 a1 a2 a3 a4 a5 a6 a7 : Int} {t4 t12 o1 o2 : Int} {r : Rq} {n1 n2 n3 n4 n5 : Nat} (hk : 0 ≤ kind ∧ kind ≤ 7 ∧ wAt a0 a1 a2 a3 a4 a5 a6 a7 kind ≠ 0) (hw : 0 ≤ who ∧ who ≤ 1) (h1 : RqOk s r) (h2 : 0 ≤ t4) (h3 : t4 < 4) (h4 : 0 ≤ t12) (h5 : t12 < 12) :
    AcOk s a0 a1 a2 a3 a4 a5 a6 a7 (if kind = 0 then (⟨kind, who, 0, 0, r⟩, n1) else if kind = 2 ∨ kind = 3 ∨ kind = 4 then (⟨kind, who, t4, 0, rq0⟩, n2) else if kind = 7 then (⟨kind, who, t12, o1, rq0⟩, n3) else if kind = 6 then (⟨kind, who, 0, o2, rq0⟩, n4) else (⟨kind, who, 0, 0, rq0⟩, n5) : Ac × Nat).1 := by
  have z : (0 : Int) ≤ 0 ∧ (0 : Int) ≤ 11 := ⟨by decide, by decide⟩
  have y4 : 0 ≤ t4 ∧ t4 ≤ 11 := ⟨h2, by omega⟩
  have y12 : 0 ≤ t12 ∧ t12 ≤ 11 := ⟨h4, by omega⟩
  refine pick5 (P := AcOk s a0 a1 a2 a3 a4 a5 a6 a7) (fun _ => ?_) (fun h => ?_) (fun h => ?_) (fun h => ?_) (fun h => ?_)
  · exact ⟨hk, hw, z, .inl h1⟩
  · exact ⟨hk, hw, y4, .inr ⟨h, rfl⟩⟩
  · exact ⟨hk, hw, y12, .inr ⟨h, rfl⟩⟩
  · exact ⟨hk, hw, z, .inr ⟨h, rfl⟩⟩
  · exact ⟨hk, hw, z, .inr ⟨h, rfl⟩⟩
theorem fillN_ok {s kind who : Int} {a0 a1 a2 a3 a4 a5 a6 a7 : Int} (x : Nat) (hs : 1 ≤ s) (hk : 0 ≤ kind ∧ kind ≤ 7 ∧ wAt a0 a1 a2 a3 a4 a5 a6 a7 kind ≠ 0) (hw : 0 ≤ who ∧ who ≤ 1) : AcOk s a0 a1 a2 a3 a4 a5 a6 a7 (fillN s kind who x).1 := by
  have h1 := reqN_ok x hs
  have h2 := lessN_le (n := 4) (x := x)
  have h3 := lessN_lt (n := 4) (x := x) (by decide)
  have h4 := lessN_le (n := 12) (x := x)
  have h5 := lessN_lt (n := 12) (x := x) (by decide)
  unfold fillN
  with_reducible exact fill_gen hk hw h1 h2 h3 h4 h5
theorem actN_ok {s : Int} {a0 a1 a2 a3 a4 a5 a6 a7 : Int} (x : Nat) (hs : 1 ≤ s) (hsum : sum8 a0 a1 a2 a3 a4 a5 a6 a7 ≠ 0) : AcOk s a0 a1 a2 a3 a4 a5 a6 a7 (actN s a0 a1 a2 a3 a4 a5 a6 a7 x).1 := by
  have h1 := kind8_wt (sum8_all hsum) (lessN_le (n := sum8 a0 a1 a2 a3 a4 a5 a6 a7) (x := x)) (sum8_less x hsum)
  have h2 := kind8_le a0 a1 a2 a3 a4 a5 a6 a7 (lessN (sum8 a0 a1 a2 a3 a4 a5 a6 a7) x)
  have h3 := lessN_le (n := 2) (x := lessS (sum8 a0 a1 a2 a3 a4 a5 a6 a7) x)
  have h4 := lessN_lt (n := 2) (x := lessS (sum8 a0 a1 a2 a3 a4 a5 a6 a7) x) (by decide)
  unfold actN
  generalize kind8 a0 a1 a2 a3 a4 a5 a6 a7 (lessN (sum8 a0 a1 a2 a3 a4 a5 a6 a7) x) = k at h1 h2
  generalize lessN 2 (lessS (sum8 a0 a1 a2 a3 a4 a5 a6 a7) x) = who at h3 h4
  generalize lessS 2 (lessS (sum8 a0 a1 a2 a3 a4 a5 a6 a7) x) = y
  exact fillN_ok y hs ⟨h2.1, h2.2, h1⟩ ⟨h3, by omega⟩
theorem scL_ok {s : Int} {a0 a1 a2 a3 a4 a5 a6 a7 : Int} (hs : 1 ≤ s) (hsum : sum8 a0 a1 a2 a3 a4 a5 a6 a7 ≠ 0) (n x : Nat) : ∀ a ∈ scL (actN s a0 a1 a2 a3 a4 a5 a6 a7) n x, AcOk s a0 a1 a2 a3 a4 a5 a6 a7 a := by
  intro a ha
  unfold scL at ha
  obtain ⟨i, _, rfl⟩ := List.mem_map.1 ha
  exact actN_ok _ hs hsum
theorem good_span {s o l : Int} (h0 : 0 ≤ o) (h1 : 1 ≤ l) (h2 : o + l ≤ s) (h3 : s ≤ 256) : span_Good.f o l s = some true := by
  have hw : wrap64 (o + l) = o + l := by unfold wrap64; omega
  unfold span_Good.f span_End.f span_Plain.f span_within.f
  have a1 : o ≥ 0 := h0
  have a2 : l ≥ 0 := by omega
  have a3 : l > 0 := by omega
  have a4 : o ≤ 1073741824 := by omega
  have a5 : l ≤ 1073741824 := by omega
  simp [a1, a2, a3, a4, a5, hw, h2]
theorem check_ok {r : Rq} {c0 c1 c2 c3 c4 : Int} (h : RqOk c0 r) (hc : c0 ≤ 256) : request_Check.f c0 c1 c2 c3 c4 r.kd r.off r.len r.data = some 0 := by
  unfold request_Check.f
  rcases h with ⟨h1, h2, h3, h4, h5, h6⟩ | ⟨h1, h2, h3, h4, h5, h6⟩ | ⟨h1, h2, h3, h4⟩
  · have g := good_span h3 h4 h6 hc
    have b1 : ¬ r.len > 8 := by omega
    simp [h1, g, b1, h2]
  · have g := good_span h3 h4 h6 hc
    have b1 : ¬ r.len > 8 := by omega
    have hw : wrap64 (r.len * 16) = r.len * 16 := by unfold wrap64; omega
    simp [h1, g, b1, h2, h5, hw]
  · simp [h1, h2, h3, h4]
theorem act_ok {a : Ac} {s : Int} {a0 a1 a2 a3 a4 a5 a6 a7 : Int} (h : AcOk s a0 a1 a2 a3 a4 a5 a6 a7 a) (hs : s ≤ 256) : script_act.f a.kind a.who a.at_ a.mask a.r.kd a.r.off a.r.len a.r.data = some true := by
  obtain ⟨⟨k0, k1, _⟩, ⟨w0, w1⟩, ⟨t0, t1⟩, hr⟩ := h
  have hr2 : 0 ≤ a.r.kd ∧ a.r.kd ≤ 2 ∧ 0 ≤ a.r.off ∧ a.r.off ≤ 30000 ∧ 0 ≤ a.r.len ∧ a.r.len ≤ 30000 ∧ (a.r.data.length : Int) ≤ 200 := by
    rcases hr with (⟨h1, h2, h3, h4, h5, h6⟩ | ⟨h1, h2, h3, h4, h5, h6⟩ | ⟨h1, h2, h3, h4⟩) | ⟨_, h⟩
    · omega
    · omega
    · omega
    · rw [h]
      exact ⟨by decide, by decide, by decide, by decide, by decide, by decide, by decide⟩
  obtain ⟨r0, r1, r2, r3, r4, r5, r6⟩ := hr2
  have a1 : (a.at_ : Int) ≥ -1 := by omega
  have a2 : a.at_ ≤ 30000 := by omega
  unfold script_act.f script_within.f
  simp [k0, k1, w0, w1, a1, a2, r0, r1, r2, r3, r4, r5, r6]
end Go.Proofs.Ytoobbolaoldacaa.DiceW
