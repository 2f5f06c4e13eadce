/-
  The contracts of package net: each function steps as Go does; memory: the net's block, its two rows, their packets.
-/
import Derived.Test.YtajpnohhahffbaaRowOwn
import Derived.Test.YtajpnohhahffbaaCloneB
import Derived.Deep.RegionLaw
import Derived.Deep.QuietTactic
import Derived.BigQuiet
namespace Go.Proofs.Ytajpnohhahffbaa.NetW
open Go.RowKit Go.Proofs.Ytajpnohhahffbaa Go.Proofs.Ytajpnohhahffbaa.RowOwn Go.Proofs.Ytajpnohhahffbaa.CloneB Go.Proofs.YtajpnohhahffbaaW.PrintWords Go.Proofs.YtajpnohhahffbaaW.PrintMore
set_option linter.unusedVariables false
abbrev KB : Kd Int := Kd.int .u8
abbrev K1 : Kd (List Int) := Kd.slice 5 (Kd.int .u8)
theorem info45 : (Try.prog.info? 45).map (fun i => (i.zero, i.size, i.bytes)) = some (some (.slice none 0 0), 1, 24) := by kernel_rfl
def small (L : List (List Int)) : Prop := L.length ≤ 4096 ∧ ∀ b ∈ L, b.length ≤ 300
def NetAt (w : World) (g base : Nat) (L0 L1 : List (List Int)) (S : Nat → Prop) : Prop :=
  ∃ v0 v1 ok0 ok1, w.heap[g]? = some (.cells #[.bool true, v0, v1] 77 (0, 0)) ∧ Row K1 45 w base ok0 v0 L0 ∧ Row K1 45 w base ok1 v1 L1 ∧ S g ∧ base ≤ g ∧ (∀ k, ok0 k → S k ∧ k ≠ g ∧ ¬ ok1 k) ∧ (∀ k, ok1 k → S k ∧ k ≠ g ∧ ¬ ok0 k) ∧ (∀ k, S k → base ≤ k ∧ k < w.heap.size) ∧ small L0 ∧ small L1
theorem check_ok (g : Nat) (d : Int) (w : World) (h : w.cell? ⟨g, 0, none⟩ = some (.bool true)) (h0 : 0 ≤ d) (h1 : d < 2) :
    Calls Try.prog 69 #[.pointer (some ⟨g, 0, none⟩), .int .i64 d] w fun e w' => e = .returned (.int .i64 0) ∧ w = w' := by
  go_enter Try.func69, Try.ntmps69
  go_wp2
  go_ret
  exact ⟨rfl, rfl⟩
theorem check_dir (g : Nat) (d : Int) (w : World) (h : w.cell? ⟨g, 0, none⟩ = some (.bool true)) (h0 : d < 0 ∨ 2 ≤ d) :
    Calls Try.prog 69 #[.pointer (some ⟨g, 0, none⟩), .int .i64 d] w fun e w' => e = .returned (.int .i64 2) ∧ w = w' := by
  by_cases hd : d < 0
  · go_enter Try.func69, Try.ntmps69
    go_wp2
    go_ret
    exact ⟨rfl, rfl⟩
  · have h2 : 2 ≤ d := by omega
    go_enter Try.func69, Try.ntmps69
    go_wp2
    go_ret
    exact ⟨rfl, rfl⟩
theorem New_c (w : World) : Calls Try.prog 37 #[] w fun e w' => e = .returned (.pointer (some ⟨w.heap.size, 0, none⟩)) ∧ w.alloc (.cells #[.bool true, .slice none 0 0, .slice none 0 0] 77) = w' := by
  go_enter Try.func37, Try.ntmps37
  go_wp2
  go_ret
  exact ⟨rfl, rfl⟩
theorem new_net (w : World) (g : Nat) (h : w.heap[g]? = some (.cells #[.bool true, .slice none 0 0, .slice none 0 0] 77 (0, 0))) : NetAt w g g [] [] (fun k => k = g) :=
  ⟨_, _, fun _ => False, fun _ => False, h, row_nil _ _ _ _ _, row_nil _ _ _ _ _, rfl, Nat.le_refl _, fun _ hk => hk.elim, fun _ hk => hk.elim, fun k hk => by subst hk; exact ⟨Nat.le_refl _, lt_at h⟩, ⟨by simp, by simp⟩, ⟨by simp, by simp⟩⟩
/-- the state stays where nothing of it was written -/
theorem net_only {w w1 : World} {g base : Nat} {L0 L1 : List (List Int)} {S T : Nat → Prop} (h : NetAt w g base L0 L1 S) (ho : OnlyS T w w1) (hT : ∀ k, S k → ¬ T k) : NetAt w1 g base L0 L1 S := by
  obtain ⟨v0, v1, ok0, ok1, hh, h0, h1, hS, hb, d0, d1, hl, s0, s1⟩ := h
  exact ⟨v0, v1, ok0, ok1, blk_only hh ho (hT g hS), row_only h0 ho (fun k hk => hT k (d0 k hk).1), row_only h1 ho (fun k hk => hT k (d1 k hk).1), hS, hb, d0, d1, fun k hk => ⟨(hl k hk).1, Nat.lt_of_lt_of_le (hl k hk).2 ho.size⟩, s0, s1⟩
theorem net_below {w w1 : World} {g base : Nat} {L0 L1 : List (List Int)} {S : Nat → Prop} (h : NetAt w g base L0 L1 S) (hb : Below w.heap.size w w1) : NetAt w1 g base L0 L1 S := net_only (T := fun _ => False) h (OnlyS.of_below hb) (fun _ _ hf => hf)
/-- one row's new value is stored -/
theorem net_put0 {w W w1 : World} {g base : Nat} {L1 M : List (List Int)} {S : Nat → Prop} {v0 v1 v : Value} {ok0 ok1 okn : Nat → Prop} {row : Option Nat}
    (hh : w.heap[g]? = some (.cells #[.bool true, v0, v1] 77 (0, 0))) (h1 : Row K1 45 w base ok1 v1 L1) (hS : S g) (hb : base ≤ g) (d0 : ∀ k, ok0 k → S k ∧ k ≠ g ∧ ¬ ok1 k) (d1 : ∀ k, ok1 k → S k ∧ k ≠ g ∧ ¬ ok0 k) (hl : ∀ k, S k → base ≤ k ∧ k < w.heap.size) (s1 : small L1)
    (hbl : Below w.heap.size w W) (hg : W.grownBy w1 row) (hrow : ∀ k, row = some k → ok0 k) (hokn : ∀ k, okn k → ok0 k ∨ w.heap.size ≤ k) (hr : Row K1 45 w1 base okn v M) (sM : small M) :
    ∃ S', NetAt (w1.setCell ⟨g, 1, none⟩ v) g base M L1 S' ∧ (∀ k, S' k → S k ∨ w.heap.size ≤ k) ∧ OnlyS S w (w1.setCell ⟨g, 1, none⟩ v) := by
  have hgl := (hl g hS).2
  have o1 : OnlyS S w W := OnlyS.of_below hbl
  have o2 : OnlyS S w w1 := o1.grown hg (fun k hk => .inl (d0 k (hrow k hk)).1)
  have o3 : OnlyS S w (w1.setCell ⟨g, 1, none⟩ v) := o2.set _ _ (.inl hS)
  have hgW : w1.heap[g]? = some (.cells #[.bool true, v0, v1] 77 (0, 0)) := by
    have h1 := keep_at_all hh hbl
    exact keep_at_grown h1 hg (fun he => (d0 g (hrow g he.symm)).2.1 rfl)
  have hset := set_at hgW 1 v
  have h1W : Row K1 45 w1 base ok1 v1 L1 := row_step h1 (fun k hk hlt => (hg.block k (Nat.lt_of_lt_of_le hlt hbl.size) (fun he => (d0 k (hrow k he.symm)).2.2 hk)).trans (hbl.block k hlt))
  have h1F : Row K1 45 (w1.setCell ⟨g, 1, none⟩ v) base ok1 v1 L1 := row_step h1W (fun k hk _ => Below.heap_setCell w1 ⟨g, 1, none⟩ v k (d1 k hk).2.1)
  have hrb := row_bound (row_types hr (g := g) (t := 77) hgW (by decide))
  have hrF : Row K1 45 (w1.setCell ⟨g, 1, none⟩ v) base (fun k => (okn k ∧ k ≠ g) ∧ base ≤ k ∧ k < w1.heap.size) v M := row_step hrb (fun k hk _ => Below.heap_setCell w1 ⟨g, 1, none⟩ v k hk.1.2)
  have hsz : (w1.setCell ⟨g, 1, none⟩ v).heap.size = w1.heap.size := by simp [World.setCell]
  have h1b := row_bound h1
  refine ⟨fun k => k = g ∨ ok1 k ∧ k < w.heap.size ∨ ((okn k ∧ k ≠ g) ∧ base ≤ k ∧ k < w1.heap.size), ⟨v, v1, _, fun k => ok1 k ∧ k < w.heap.size, hset, hrF, ?_, .inl rfl, hb, ?_, ?_, ?_, sM, s1⟩, ?_, o3⟩
  · have : Row K1 45 (w1.setCell ⟨g, 1, none⟩ v) base (fun k => ok1 k ∧ base ≤ k ∧ k < w.heap.size) v1 L1 :=
      row_step h1b (fun k hk hlt => (Below.heap_setCell w1 ⟨g, 1, none⟩ v k (d1 k hk.1).2.1).trans ((hg.block k (Nat.lt_of_lt_of_le hlt hbl.size) (fun he => (d0 k (hrow k he.symm)).2.2 hk.1)).trans (hbl.block k hlt)))
    exact row_mono this (fun k hk => ⟨hk.1, hk.2.2⟩)
  · intro k hk
    refine ⟨.inr (.inr hk), hk.1.2, fun h => ?_⟩
    rcases hokn k hk.1.1 with h2 | h2
    · exact (d0 k h2).2.2 h.1
    · omega
  · intro k hk
    refine ⟨.inr (.inl hk), (d1 k hk.1).2.1, fun h => ?_⟩
    rcases hokn k h.1.1 with h2 | h2
    · exact (d0 k h2).2.2 hk.1
    · omega
  · intro k hk
    rw [hsz]
    rcases hk with rfl | hk | hk
    · exact ⟨hb, lt_at hgW⟩
    · exact ⟨(hl k (d1 k hk.1).1).1, by have := hbl.size; have := hg.size; omega⟩
    · exact hk.2
  · intro k hk
    rcases hk with rfl | hk | hk
    · exact .inl hS
    · exact .inl (d1 k hk.1).1
    · rcases hokn k hk.1.1 with h2 | h2
      · exact .inl (d0 k h2).1
      · exact .inr h2
/-- one row's new value is stored -/
theorem net_put1 {w W w1 : World} {g base : Nat} {L1 M : List (List Int)} {S : Nat → Prop} {v0 v1 v : Value} {ok0 ok1 okn : Nat → Prop} {row : Option Nat}
    (hh : w.heap[g]? = some (.cells #[.bool true, v1, v0] 77 (0, 0))) (h1 : Row K1 45 w base ok1 v1 L1) (hS : S g) (hb : base ≤ g) (d0 : ∀ k, ok0 k → S k ∧ k ≠ g ∧ ¬ ok1 k) (d1 : ∀ k, ok1 k → S k ∧ k ≠ g ∧ ¬ ok0 k) (hl : ∀ k, S k → base ≤ k ∧ k < w.heap.size) (s1 : small L1)
    (hbl : Below w.heap.size w W) (hg : W.grownBy w1 row) (hrow : ∀ k, row = some k → ok0 k) (hokn : ∀ k, okn k → ok0 k ∨ w.heap.size ≤ k) (hr : Row K1 45 w1 base okn v M) (sM : small M) :
    ∃ S', NetAt (w1.setCell ⟨g, 2, none⟩ v) g base L1 M S' ∧ (∀ k, S' k → S k ∨ w.heap.size ≤ k) ∧ OnlyS S w (w1.setCell ⟨g, 2, none⟩ v) := by
  have hgl := (hl g hS).2
  have o1 : OnlyS S w W := OnlyS.of_below hbl
  have o2 : OnlyS S w w1 := o1.grown hg (fun k hk => .inl (d0 k (hrow k hk)).1)
  have o3 : OnlyS S w (w1.setCell ⟨g, 2, none⟩ v) := o2.set _ _ (.inl hS)
  have hgW : w1.heap[g]? = some (.cells #[.bool true, v1, v0] 77 (0, 0)) := by
    have h1 := keep_at_all hh hbl
    exact keep_at_grown h1 hg (fun he => (d0 g (hrow g he.symm)).2.1 rfl)
  have hset := set_at hgW 2 v
  have h1W : Row K1 45 w1 base ok1 v1 L1 := row_step h1 (fun k hk hlt => (hg.block k (Nat.lt_of_lt_of_le hlt hbl.size) (fun he => (d0 k (hrow k he.symm)).2.2 hk)).trans (hbl.block k hlt))
  have h1F : Row K1 45 (w1.setCell ⟨g, 2, none⟩ v) base ok1 v1 L1 := row_step h1W (fun k hk _ => Below.heap_setCell w1 ⟨g, 2, none⟩ v k (d1 k hk).2.1)
  have hrb := row_bound (row_types hr (g := g) (t := 77) hgW (by decide))
  have hrF : Row K1 45 (w1.setCell ⟨g, 2, none⟩ v) base (fun k => (okn k ∧ k ≠ g) ∧ base ≤ k ∧ k < w1.heap.size) v M := row_step hrb (fun k hk _ => Below.heap_setCell w1 ⟨g, 2, none⟩ v k hk.1.2)
  have hsz : (w1.setCell ⟨g, 2, none⟩ v).heap.size = w1.heap.size := by simp [World.setCell]
  have h1b := row_bound h1
  refine ⟨fun k => k = g ∨ ok1 k ∧ k < w.heap.size ∨ ((okn k ∧ k ≠ g) ∧ base ≤ k ∧ k < w1.heap.size), ⟨v1, v, fun k => ok1 k ∧ k < w.heap.size, _, hset, ?_, hrF, .inl rfl, hb, ?_, ?_, ?_, s1, sM⟩, ?_, o3⟩
  · have : Row K1 45 (w1.setCell ⟨g, 2, none⟩ v) base (fun k => ok1 k ∧ base ≤ k ∧ k < w.heap.size) v1 L1 :=
      row_step h1b (fun k hk hlt => (Below.heap_setCell w1 ⟨g, 2, none⟩ v k (d1 k hk.1).2.1).trans ((hg.block k (Nat.lt_of_lt_of_le hlt hbl.size) (fun he => (d0 k (hrow k he.symm)).2.2 hk.1)).trans (hbl.block k hlt)))
    exact row_mono this (fun k hk => ⟨hk.1, hk.2.2⟩)
  · intro k hk
    refine ⟨.inr (.inl hk), (d1 k hk.1).2.1, fun h => ?_⟩
    rcases hokn k h.1.1 with h2 | h2
    · exact (d0 k h2).2.2 hk.1
    · omega
  · intro k hk
    refine ⟨.inr (.inr hk), hk.1.2, fun h => ?_⟩
    rcases hokn k hk.1.1 with h2 | h2
    · exact (d0 k h2).2.2 h.1
    · omega
  · intro k hk
    rw [hsz]
    rcases hk with rfl | hk | hk
    · exact ⟨hb, lt_at hgW⟩
    · exact ⟨(hl k (d1 k hk.1).1).1, by have := hbl.size; have := hg.size; omega⟩
    · exact hk.2
  · intro k hk
    rcases hk with rfl | hk | hk
    · exact .inl hS
    · exact .inl (d1 k hk.1).1
    · rcases hokn k hk.1.1 with h2 | h2
      · exact .inl (d0 k h2).1
      · exact .inr h2
end Go.Proofs.Ytajpnohhahffbaa.NetW
