/-
  The state of a hot set, and what its methods but Use leave of it.
-/
import Derived.Test.YtoobbolaoldacaaHotBP
import Derived.Test.YtoobbolaoldacaaRowOwn
import Derived.Test.YtoobbolaoldacaaCloneI
import Derived.Test.YtoobbolaoldacaaY
import Derived.Deep.QuietTactic
import Derived.BigQuiet
import Derived.Deep.RegionHeld3
namespace Go.Proofs.Ytoobbolaoldacaa.HotW
open Go.RowKit Go.Proofs.Ytoobbolaoldacaa Go.Proofs.Ytoobbolaoldacaa.Hot Go.Proofs.Ytoobbolaoldacaa.HotBP Go.Proofs.Ytoobbolaoldacaa.BitsPlain Go.Proofs.Ytoobbolaoldacaa.RowOwn Go.Proofs.Ytoobbolaoldacaa.CloneI Go.Proofs.YtoobbolaoldacaaW.PrintWords Go.Proofs.YtoobbolaoldacaaW.PrintMore
set_option linter.unusedVariables false
abbrev KI : Kd Int := Kd.int .i64
def HotAt (w : World) (g base : Nat) (m : Int) (L : List Int) (S : Nat → Prop) : Prop :=
  ∃ v ok, w.heap[g]? = some (.cells #[.int .i64 m, v] 88 (0, 0)) ∧ Row KI 3 w base ok v L ∧ S g ∧ base ≤ g ∧ (∀ k, ok k → S k ∧ k ≠ g) ∧ (∀ k, S k → base ≤ k ∧ k < w.heap.size) ∧ L.length ≤ 100000
theorem hot_lt {w : World} {g base : Nat} {m : Int} {L : List Int} {S : Nat → Prop} (h : HotAt w g base m L S) : base ≤ g ∧ g < w.heap.size ∧ L.length ≤ 100000 := by
  obtain ⟨v, ok, hh, hr, hS, hb, hd, hl, hn⟩ := h
  exact ⟨hb, lt_at hh, hn⟩
theorem hot_only {w w1 : World} {g base : Nat} {m : Int} {L : List Int} {S T : Nat → Prop} (h : HotAt w g base m L S) (ho : OnlyS T w w1) (hT : ∀ k, S k → ¬ T k) : HotAt w1 g base m L S := by
  obtain ⟨v, ok, hh, hr, hS, hb, hd, hl, hn⟩ := h
  exact ⟨v, ok, blk_only hh ho (hT g hS), row_only hr ho (fun k hk => hT k (hd k hk).1), hS, hb, hd, fun k hk => ⟨(hl k hk).1, Nat.lt_of_lt_of_le (hl k hk).2 ho.size⟩, hn⟩
theorem hot_below {w w1 : World} {g base : Nat} {m : Int} {L : List Int} {S : Nat → Prop} (h : HotAt w g base m L S) (hb : Below w.heap.size w w1) : HotAt w1 g base m L S := hot_only (T := fun _ => False) h (OnlyS.of_below hb) (fun _ _ hf => hf)
theorem hot_bl {w0 w w' : World} {g base : Nat} {m : Int} {L : List Int} {S : Nat → Prop} (h : HotAt w g base m L S) (ho : OnlyS S w w') (hb : Below base w0 w) : Below base w0 w' := by
  obtain ⟨v, ok, hh, hr, hS, hb', hd, hl, hn⟩ := h
  exact ho.to_below hb (fun k hk => (hl k hk).1) (by have := lt_at hh; omega)
theorem hot_cells {w : World} {g base : Nat} {m : Int} {L : List Int} {S : Nat → Prop} (h : HotAt w g base m L S) :
    w.cell? ⟨g, 0, none⟩ = some (.int .i64 m) ∧ ∃ A c, w.cell? ⟨g, 1, none⟩ = some (.slice A L.length c) ∧ L.length ≤ c ∧ Kd.C KI w A L.length L ∧ w.frozen? ⟨g, 1, none⟩ = false := by
  obtain ⟨v, ok, hh, hr, hS, hb, hd, hl, hn⟩ := h
  obtain ⟨A, c, rfl, hc, hC⟩ := row_reads hr
  exact ⟨blk_cell hh 0, A, c, blk_cell hh 1, hc, hC, blk_frozen hh 1⟩
/-- the row's new value is stored -/
theorem hot_put {w W w1 : World} {g base : Nat} {m : Int} {M : List Int} {S : Nat → Prop} {v : Value} {ok0 okn : Nat → Prop} {row : Option Nat} {v0 : Value}
    (hh : w.heap[g]? = some (.cells #[.int .i64 m, v0] 88 (0, 0))) (hS : S g) (hb : base ≤ g) (d0 : ∀ k, ok0 k → S k ∧ k ≠ g) (hl : ∀ k, S k → base ≤ k ∧ k < w.heap.size)
    (hbl : Below w.heap.size w W) (hg : W.grownBy w1 row) (hrow : ∀ k, row = some k → ok0 k) (hokn : ∀ k, okn k → ok0 k ∨ w.heap.size ≤ k) (hr : Row KI 3 w1 base okn v M) (sM : M.length ≤ 100000) :
    ∃ S', HotAt (w1.setCell ⟨g, 1, none⟩ v) g base m M S' ∧ (∀ k, S' k → S k ∨ w.heap.size ≤ k) ∧ OnlyS S w (w1.setCell ⟨g, 1, none⟩ v) := by
  have o2 : OnlyS S w w1 := (OnlyS.of_below hbl).grown hg (fun k hk => .inl (d0 k (hrow k hk)).1)
  have o3 : OnlyS S w (w1.setCell ⟨g, 1, none⟩ v) := o2.set _ _ (.inl hS)
  have hgW : w1.heap[g]? = some (.cells #[.int .i64 m, v0] 88 (0, 0)) := keep_at_grown (keep_at_all hh hbl) hg (fun he => (d0 g (hrow g he.symm)).2 rfl)
  have hset := set_at hgW 1 v
  have hrb := row_bound (row_types hr (g := g) (t := 88) hgW (by decide))
  have hrF : Row KI 3 (w1.setCell ⟨g, 1, none⟩ v) base (fun k => (okn k ∧ k ≠ g) ∧ base ≤ k ∧ k < w1.heap.size) v M := row_step hrb (fun k hk _ => Below.heap_setCell w1 ⟨g, 1, none⟩ v k hk.1.2)
  have hsz : (w1.setCell ⟨g, 1, none⟩ v).heap.size = w1.heap.size := by simp [World.setCell]
  refine ⟨fun k => k = g ∨ ((okn k ∧ k ≠ g) ∧ base ≤ k ∧ k < w1.heap.size), ⟨v, _, hset, hrF, .inl rfl, hb, fun k hk => ⟨.inr hk, hk.1.2⟩, fun k hk => ?_, sM⟩, fun k hk => ?_, o3⟩
  · rw [hsz]
    rcases hk with rfl | hk
    · exact ⟨hb, lt_at hgW⟩
    · exact hk.2
  · rcases hk with rfl | hk
    · exact .inl hS
    · rcases hokn k hk.1.1 with h2 | h2
      · exact .inl (d0 k h2).1
      · exact .inr h2
theorem new_hot (w : World) (g : Nat) (m : Int) (h : w.heap[g]? = some (.cells #[.int .i64 m, .slice none 0 0] 88 (0, 0))) : HotAt w g g m [] (fun k => k = g) :=
  ⟨_, fun _ => False, h, row_nil _ _ _ _ _, rfl, Nat.le_refl _, fun _ hk => hk.elim, fun k hk => by subst hk; exact ⟨Nat.le_refl _, lt_at h⟩, by simp⟩
theorem New_yes (p : Int) (w : World) (h1 : 1 ≤ p) (h2 : p ≤ 16) :
    Calls Try.prog 18 #[.int .i64 p] w fun e w' => e = .returned (.tuple #[.pointer (some ⟨w.heap.size, 0, none⟩), .int .i64 0]) ∧ w.alloc (.cells #[.int .i64 p, .slice none 0 0] 88) = w' := by
  have c1 : ¬ p < 1 := by omega
  have c2 : ¬ 16 < p := by omega
  go_enter Try.func18, Try.ntmps18
  go_wp2
  go_ret2
  exact ⟨rfl, rfl⟩
theorem New_no (p : Int) (w : World) (h : p < 1 ∨ 16 < p) :
    Calls Try.prog 18 #[.int .i64 p] w fun e w' => e = .returned (.tuple #[.pointer none, .int .i64 2]) ∧ w = w' := by
  by_cases c1 : p < 1
  · go_enter Try.func18, Try.ntmps18
    go_wp2
    go_ret2
    exact ⟨rfl, rfl⟩
  · have c2 : 16 < p := by omega
    go_enter Try.func18, Try.ntmps18
    go_wp2
    go_ret2
    exact ⟨rfl, rfl⟩
theorem is_yes (g : Nat) (p : Int) (w : World) (hp : 0 < p) (h : w.cell? ⟨g, 0, none⟩ = some (.int .i64 p)) :
    Calls Try.prog 64 #[.pointer (some ⟨g, 0, none⟩)] w fun e w' => e = .returned (.bool true) ∧ w = w' := by
  go_enter Try.func64, Try.ntmps64
  go_wp2
  go_ret
  exact ⟨rfl, rfl⟩
theorem is_none (g : Nat) (w : World) (h : w.cell? ⟨g, 0, none⟩ = some (.int .i64 0)) :
    Calls Try.prog 64 #[.pointer (some ⟨g, 0, none⟩)] w fun e w' => e = .returned (.bool false) ∧ w = w' := by
  go_enter Try.func64, Try.ntmps64
  go_wp2
  go_ret
  exact ⟨rfl, rfl⟩
theorem is_nil (w : World) : Calls Try.prog 64 #[.pointer none] w fun e w' => e = .returned (.bool false) ∧ w = w' := by
  go_enter Try.func64, Try.ntmps64
  go_wp2
  go_ret
  exact ⟨rfl, rfl⟩
theorem Mask_c (g base : Nat) (m : Int) (L : List Int) (S : Nat → Prop) (w : World) (hm : 0 < m) (h : HotAt w g base m L S) :
    Calls Try.prog 23 #[.pointer (some ⟨g, 0, none⟩)] w fun e w' => e = .returned (.int .u64 ((ofN L : Nat) : Int)) ∧ Drawn0 w w' := by
  have hlen := (hot_lt h).2.2
  obtain ⟨c0, A, c, c1, hc, hC, _⟩ := hot_cells h
  have I := Lib.hid (is_yes g m w hm c0)
  have O := Lib.hid (bits_Of.calls 200000 A c L _ w hC hc (of_p L (by omega) 200000 (by omega)))
  clear hC h c0
  go_enter Try.func23, Try.ntmps23
  go_wp2_with fail
  refine I.out.mono ?_
  rintro e w' ⟨rfl, rfl⟩
  go_wp2_with fail
  refine O.out.mono ?_
  rintro e w' ⟨rfl, n, rfl⟩
  go_wp2_with fail
  go_ret
  exact ⟨rfl, n, rfl⟩
def fitsN (m : Int) (L : List Int) (need busy : Nat) : Bool := decide (((pop 64 (need ||| (ofN L &&& busy)) : Nat) : Int) ≤ m)
theorem fits_keep {w v v' : World} {g base : Nat} {m : Int} {L : List Int} {S : Nat → Prop} (hb : Below v.heap.size v v') (h : v.cell? ⟨g, 0, none⟩ = some (.int .i64 m) ∧ HotAt v g base m L S ∧ Below w.heap.size w v) :
    v'.cell? ⟨g, 0, none⟩ = some (.int .i64 m) ∧ HotAt v' g base m L S ∧ Below w.heap.size w v' := by
  have h1 := hot_below h.2.1 hb
  exact ⟨(hot_cells h1).1, h1, h.2.2.trans (hb.mono h.2.2.size)⟩
theorem bl_same {w w' : World} (h : w = w') : Below w.heap.size w w' := by subst h; exact Below.refl _ _
theorem bl_drawn {w w' : World} (h : Drawn0 w w') : Below w.heap.size w w' := by obtain ⟨n, rfl⟩ := h; exact bl_drew (Below.refl _ _) n
set_option maxRecDepth 10000 in
theorem Fits_c (g base : Nat) (m : Int) (L : List Int) (S : Nat → Prop) (need busy : Nat) (w : World) (hm : 0 < m) (hn : need < 2 ^ 64) (hb : busy < 2 ^ 64) (h : HotAt w g base m L S) :
    Calls Try.prog 21 #[.pointer (some ⟨g, 0, none⟩), .int .u64 (need : Int), .int .u64 (busy : Int)] w fun e w' => e = .returned (.bool (fitsN m L need busy)) ∧ Below w.heap.size w w' := by
  obtain ⟨c0, _⟩ := hot_cells h
  have hO : ofN L < 2 ^ 64 := ofN_lt L 0 (by omega)
  have I := Lib.hid (fun v (h : HotAt v g base m L S) => (is_yes g m v hm (hot_cells h).1).mono (fun e w' (hx : e = .returned (.bool true) ∧ v = w') => (⟨hx.1, bl_same hx.2⟩ : e = .returned (.bool true) ∧ Below v.heap.size v w')))
  have MK := Lib.hid (fun v (h : HotAt v g base m L S) => (Mask_c g base m L S v hm h).mono (fun e w' (hx : e = .returned (.int .u64 ((ofN L : Nat) : Int)) ∧ Drawn0 v w') => (⟨hx.1, bl_drawn hx.2⟩ : e = .returned (.int .u64 ((ofN L : Nat) : Int)) ∧ Below v.heap.size v w')))
  have hq : (need ||| (ofN L &&& busy)) < 2 ^ 64 := Nat.or_lt_two_pow hn (Nat.lt_of_le_of_lt Nat.and_le_left hO)
  have CT := Lib.hid (fun v => bits_Count.calls _ _ v (count_p _ hq))
  have e1 : Go.bits .and .u64 ((ofN L : Nat) : Int) (busy : Int) = ((ofN L &&& busy : Nat) : Int) := u64_and_nat _ _ hO hb
  have e2 : Go.bits .or .u64 (need : Int) ((ofN L &&& busy : Nat) : Int) = ((need ||| (ofN L &&& busy) : Nat) : Int) := u64_or_nat _ _ hn (Nat.lt_of_le_of_lt Nat.and_le_left hO)
  have hS0 : w.cell? ⟨g, 0, none⟩ = some (.int .i64 m) ∧ HotAt w g base m L S ∧ Below w.heap.size w w := ⟨c0, h, Below.refl _ _⟩
  unfold fitsN
  clear h hO hq hn hb c0
  generalize need ||| (ofN L &&& busy) = q at CT e2 ⊢
  generalize ofN L &&& busy = q2 at e1 e2
  generalize ofN L = q3 at MK e1
  generalize pop 64 q = z at CT ⊢
  go_enter Try.func21, Try.ntmps21
  go_wp2_with fail
  go_region_held3 (fun v => v.cell? ⟨g, 0, none⟩ = some (.int .i64 m) ∧ HotAt v g base m L S ∧ Below w.heap.size w v)
    (first | (with_reducible assumption) | (refine fits_keep (v := w) (Below.drew (Below.refl _ _)) ?_; with_reducible assumption) | (apply fits_keep <;> with_reducible assumption))
    (first
      | (go_at_call 64; with_reducible refine (I.out _ ?_).mono ?_; (exact (And.left (And.right (by with_reducible assumption)))); rintro e w3 ⟨rfl, hb3⟩)
      | (go_at_call 23; with_reducible refine (MK.out _ ?_).mono ?_; (exact (And.left (And.right (by with_reducible assumption)))); rintro e w3 ⟨rfl, hb3⟩)
      | (go_at_call 66; with_reducible refine (CT.out _).mono ?_; rintro e w3 ⟨rfl, hb3⟩))
  rename_i hH
  have HB := Lib.hid hH.2.2
  clear hH hS0
  go_wp2_with fail
  go_ret
  exact ⟨rfl, HB.out⟩
end Go.Proofs.Ytoobbolaoldacaa.HotW
