/-
  The reference's answers for the hot set are the program's: no program.
-/
import Derived.Test.YtoobbolaoldacaaHotP
namespace Go.Proofs.Ytoobbolaoldacaa.HotP
open Go.Proofs.Ytoobbolaoldacaa Go.Proofs.Ytoobbolaoldacaa.Hot Go.Proofs.Ytoobbolaoldacaa.HotBP Go.Proofs.Ytoobbolaoldacaa.BitsPlain Go.Proofs.Ytoobbolaoldacaa.HotW
set_option linter.unusedVariables false
set_option linter.unusedSimpArgs false
def countR (need busy : Nat) (L : List Int) : Nat := (L.filter (fun e => hasN busy e && !hasN need e)).length
def rfitsN (m : Int) (L : List Int) (need busy : Nat) : Bool := decide ((((intsN (list need)).length + countR need busy L : Nat) : Int) ≤ m)
def rstepN (m : Int) (need busy : Nat) (L : List Int) (e : Int) : List Int := if overN m need L && !hasN need e && !hasN busy e then L.filter (fun x => x != e) else L
def rappN (L : List Int) (e : Int) : List Int := L.filter (fun x => x != e) ++ [e]
theorem ints_mem (x : Nat) (e : Int) : e ∈ intsN (list x) ↔ (0 ≤ e ∧ e < 64) ∧ x.testBit e.toNat = true := by
  unfold intsN
  rw [List.mem_map]
  constructor
  · rintro ⟨a, ha, rfl⟩
    have := (list_mem x a).1 ha
    exact ⟨by omega, this.2⟩
  · rintro ⟨h1, h2⟩
    exact ⟨e.toNat, (list_mem x _).2 ⟨by omega, h2⟩, by omega⟩
theorem has_int (x : Nat) (e : Int) (h : 0 ≤ e ∧ e < 64) : hasN x e = x.testBit e.toNat := by
  have := has_nat x e.toNat (by omega)
  rw [show ((e.toNat : Nat) : Int) = e by omega] at this
  exact this
theorem fits_eq (m : Int) (L : List Int) (need busy : Nat) (h : Good L) (hn : need < 2 ^ 64) : rfitsN m L need busy = fitsN m L need busy := by
  unfold rfitsN fitsN
  have hg : Good (intsN (list need) ++ L.filter (fun e => hasN busy e && !hasN need e)) := by
    refine ⟨?_, fun e he => ?_⟩
    · rw [List.nodup_append]
      refine ⟨(good_list need).1, h.1.sublist List.filter_sublist, fun a ha b hb => ?_⟩
      rintro rfl
      have h1 := (ints_mem need a).1 ha
      have h2 := (List.mem_filter.1 hb).2
      rw [has_int need a h1.1, h1.2] at h2
      simp at h2
    · rcases List.mem_append.1 he with h1 | h1
      · exact (good_list need).2 e h1
      · exact h.2 e (List.mem_filter.1 h1).1
  have hb : need ||| (ofN L &&& busy) = ofN (intsN (list need) ++ L.filter (fun e => hasN busy e && !hasN need e)) := by
    apply Nat.eq_of_testBit_eq
    intro i
    rw [Nat.testBit_or, Nat.testBit_and, bit_ofN, bit_ofN]
    by_cases hi : i < 64
    · simp only [hi, decide_true, Bool.true_and]
      rw [Bool.eq_iff_iff]
      simp only [Bool.or_eq_true, Bool.and_eq_true, decide_eq_true_eq, List.mem_append, List.mem_filter]
      have h1 : (i : Int) ∈ intsN (list need) ↔ need.testBit i = true := by
        have := list_is need i
        rw [decide_eq_true hi, Bool.true_and] at this
        rw [← this, decide_eq_true_eq]
      rw [h1, has_nat _ _ hi, has_nat _ _ hi]
      cases need.testBit i <;> cases busy.testBit i <;> simp
    · simp [hi, high need i hn hi]
  rw [hb, pop_ofN _ hg, List.length_append]
  rfl
theorem filter_erase (L : List Int) (e : Int) (h : L.Nodup) : L.filter (fun x => x != e) = L.eraseP (fun x => x == e) := by
  rw [← List.erase_eq_eraseP', h.erase_eq_filter]
theorem app_eq (L : List Int) (e : Int) (h : L.Nodup) : rappN L e = stepN L e := by
  unfold rappN stepN
  rw [filter_erase L e h]
theorem apps_eq : ∀ (M L : List Int), Good L → (∀ e ∈ M, 0 ≤ e ∧ e < 64) → M.foldl rappN L = M.foldl stepN L
  | [], _, _, _ => rfl
  | e :: M, L, h, hm => by
    rw [List.foldl_cons, List.foldl_cons, app_eq L e h.1]
    exact apps_eq M _ (step_good L e h (hm e (by simp))) (fun a ha => hm a (by simp [ha]))
theorem rsteps_not (m : Int) (need busy : Nat) : ∀ (Q L : List Int), overN m need L = false → Q.foldl (rstepN m need busy) L = L
  | [], _, _ => rfl
  | e :: Q, L, h => by
    rw [List.foldl_cons, show rstepN m need busy L e = L by unfold rstepN; rw [h]; rfl]
    exact rsteps_not m need busy Q L h
theorem trim_eq (m : Int) (need busy : Nat) : ∀ (Q P : List Int), (P ++ Q).Nodup → (∀ x ∈ P, mayN need busy x = false) → Q.foldl (rstepN m need busy) (P ++ Q) = trimN m need busy (P ++ Q)
  | [], P, hd, hp => by
    rw [List.foldl_nil, trim_stop m need busy (P ++ []) (by
      have : (P ++ []).any (mayN need busy) = false := by rw [List.append_nil, List.any_eq_false]; intro x hx; simp [hp x hx]
      rw [this, Bool.and_false])]
  | e :: Q, P, hd, hp => by
    rw [List.foldl_cons]
    have hmay : mayN need busy e = (!hasN need e && !hasN busy e) := by unfold mayN; rw [has_or]; cases hasN need e <;> cases hasN busy e <;> rfl
    cases hm : mayN need busy e with
    | false =>
      have hs : rstepN m need busy (P ++ e :: Q) e = P ++ e :: Q := by
        unfold rstepN
        rw [Bool.and_assoc, ← hmay, hm, Bool.and_false]
        rfl
      rw [hs]
      have hc : P ++ e :: Q = (P ++ [e]) ++ Q := by simp
      rw [hc]
      refine trim_eq m need busy Q (P ++ [e]) (hc ▸ hd) (fun x hx => ?_)
      rcases List.mem_append.1 hx with h1 | h1
      · exact hp x h1
      · rw [List.mem_singleton.1 h1]; exact hm
    | true =>
      cases ho : overN m need (P ++ e :: Q) with
      | false =>
        rw [show rstepN m need busy (P ++ e :: Q) e = P ++ e :: Q by unfold rstepN; rw [ho]; rfl, rsteps_not m need busy Q _ ho, trim_stop m need busy _ (by rw [ho]; rfl)]
      | true =>
        have hP : e ∉ P := fun h => by
          have := (List.nodup_append.1 hd).2.2 e h e (by simp)
          exact this rfl
        have hE : (P ++ e :: Q).eraseP (mayN need busy) = P ++ Q := by
          rw [List.eraseP_append_right _ (fun x hx => by simp [hp x hx]), List.eraseP_cons_of_pos hm]
        have hF : (P ++ e :: Q).filter (fun x => x != e) = P ++ Q := by
          rw [filter_erase _ _ hd, List.eraseP_append_right _ (fun x hx => by
            have : x ≠ e := fun h => hP (h ▸ hx)
            simpa using this), List.eraseP_cons_of_pos (by simp)]
        have hs : rstepN m need busy (P ++ e :: Q) e = P ++ Q := by
          unfold rstepN
          rw [Bool.and_assoc, ← hmay, hm, ho]
          exact hF
        have hany : (P ++ e :: Q).any (mayN need busy) = true := List.any_eq_true.2 ⟨e, by simp, hm⟩
        rw [hs, (trim_go m need busy (P ++ e :: Q) (by rw [ho, hany]; rfl)).1, hE]
        refine trim_eq m need busy Q P ?_ hp
        exact hd.sublist (List.Sublist.append_left (List.sublist_cons_self e Q) P)
theorem rtrim_eq (m : Int) (need busy : Nat) (L : List Int) (h : L.Nodup) : L.foldl (rstepN m need busy) L = trimN m need busy L := trim_eq m need busy L [] h (by simp)
def ruseN (m : Int) (L : List Int) (need busy : Nat) : (Bool × Bool) × List Int :=
  if rfitsN m L need busy then ((((ofN ((intsN (list need)).foldl rappN (L.foldl (rstepN m need busy) L)) : Nat) : Int) != ((ofN L : Nat) : Int), true), (intsN (list need)).foldl rappN (L.foldl (rstepN m need busy) L)) else ((false, false), L)
theorem use_eq (m : Int) (L : List Int) (need busy : Nat) (h : Good L) (hn : need < 2 ^ 64) : ruseN m L need busy = useN m L need busy := by
  unfold ruseN useN
  rw [fits_eq m L need busy h hn, rtrim_eq m need busy L h.1, apps_eq _ _ (trim_good m need busy L h) (good_list need).2]
theorem rstep_len (m : Int) (need busy : Nat) (L : List Int) (e : Int) : (rstepN m need busy L e).length ≤ L.length := by
  unfold rstepN
  split
  · exact List.length_filter_le _ _
  · exact Nat.le_refl _
theorem rapp_len (L : List Int) (e : Int) : (rappN L e).length ≤ L.length + 1 := by
  unfold rappN
  rw [List.length_append, List.length_singleton]
  have := List.length_filter_le (fun x => x != e) L
  omega
end Go.Proofs.Ytoobbolaoldacaa.HotP
