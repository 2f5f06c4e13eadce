/-
  Dice: an act, its beginning; 'fill' where nothing is beside.
-/
import Derived.Test.YtoobbolaoldacaaDiceU
import Derived.Test.YtoobbolaoldacaaDicex2
import Derived.Test.YtoobbolaoldacaaWLast
import Derived.Test.YtoobbolaoldacaaWTab
import Derived.Deep.RegionHeld3
import Derived.Deep.RegionWith
import Derived.Deep.DeepCutAuto
namespace Go.Proofs.Ytoobbolaoldacaa.DiceW
open Go.RowKit Go.Proofs.Ytoobbolaoldacaa Go.Proofs.Ytoobbolaoldacaa.Dice Go.Proofs.Ytoobbolaoldacaa.DiceP Go.Proofs.Ytoobbolaoldacaa.RowOwn Go.Proofs.YtoobbolaoldacaaW.PrintWords Go.Proofs.YtoobbolaoldacaaW.PrintLast Go.Proofs.YtoobbolaoldacaaW.PrintMore
set_option linter.unusedVariables false
structure Rq where
  kd : Int
  off : Int
  len : Int
  data : List Int
structure Ac where
  kind : Int
  who : Int
  at_ : Int
  mask : Int
  r : Rq
def rq0 : Rq := ⟨0, 0, 0, []⟩
def ac0 : Ac := ⟨0, 0, 0, 0, rq0⟩
abbrev KB : Kd Int := Kd.int .u8
/-- the bytes of n sectors, and the state behind them -/
def dataN : Nat → Nat → List Int × Nat
  | 0, x => ([], x)
  | n + 1, x => (List.replicate 16 (lessN 256 x) ++ (dataN n (lessS 256 x)).1, (dataN n (lessS 256 x)).2)
/-- a span of so many sectors -/
def spanL (s : Int) (x : Nat) : Int := 1 + lessN (if s < 8 then s else 8) x
def spanX (s : Int) (x : Nat) : Nat := lessS (if s < 8 then s else 8) x
def spanO (s : Int) (x : Nat) : Int := lessN (s - spanL s x + 1) (spanX s x)
def spanS (s : Int) (x : Nat) : Nat := lessS (s - spanL s x + 1) (spanX s x)
/-- a request, where the settings may be -/
def reqN (s : Int) (x : Nat) : Rq × Nat :=
  if lessN 5 x < 2 then (⟨0, spanO s (lessS 5 x), spanL s (lessS 5 x), []⟩, spanS s (lessS 5 x))
  else if lessN 5 x < 4 then (⟨1, spanO s (lessS 5 x), spanL s (lessS 5 x), (dataN (spanL s (lessS 5 x)).toNat (spanS s (lessS 5 x))).1⟩, (dataN (spanL s (lessS 5 x)).toNat (spanS s (lessS 5 x))).2)
  else (⟨2, 0, 0, []⟩, lessS 5 x)
/-- what an act of its kind has beside -/
def fillN (s kind who : Int) (x : Nat) : Ac × Nat :=
  if kind = 0 then (⟨kind, who, 0, 0, (reqN s x).1⟩, (reqN s x).2)
  else if kind = 2 ∨ kind = 3 ∨ kind = 4 then (⟨kind, who, lessN 4 x, 0, rq0⟩, lessS 4 x)
  else if kind = 7 then (⟨kind, who, lessN 12 x, outN (lessS 12 x), rq0⟩, stepN (lessS 12 x))
  else if kind = 6 then (⟨kind, who, 0, outN x, rq0⟩, stepN x)
  else (⟨kind, who, 0, 0, rq0⟩, x)
def actN (s : Int) (a0 a1 a2 a3 a4 a5 a6 a7 : Int) (x : Nat) : Ac × Nat :=
  fillN s (kind8 a0 a1 a2 a3 a4 a5 a6 a7 (lessN (sum8 a0 a1 a2 a3 a4 a5 a6 a7) x)) (lessN 2 (lessS (sum8 a0 a1 a2 a3 a4 a5 a6 a7) x)) (lessS 2 (lessS (sum8 a0 a1 a2 a3 a4 a5 a6 a7) x))
abbrev acells (a : Ac) (v : Value) : Array Value := #[.int .i64 a.kind, .int .i64 a.who, .int .i64 a.at_, .int .u64 a.mask, .int .i64 a.r.kd, .int .i64 a.r.off, .int .i64 a.r.len, v]
abbrev Cf (c0 c1 c2 c3 c4 : Int) : Value := .agg #[.int .i64 c0, .int .i64 c1, .int .i64 c2, .int .i64 c3, .int .i64 c4]
/-- what fill leaves -/
def FillQ (W : World) (g b : Nat) (r : Ac × Nat) (e : Ending) (w' : World) : Prop :=
  e = .returned (.tuple #[]) ∧ ∃ v, w'.heap[b]? = some (.cells (acells r.1 v) 106 (0, 0)) ∧ Kd.R KB 5 w' W.heap.size (fun _ => True) v r.1.r.data ∧ DAt 113 w' g r.2 ∧ OnlyS (fun k => k = g ∨ k = b) W w'
theorem kind8_le (a0 a1 a2 a3 a4 a5 a6 a7 t : Int) : 0 ≤ kind8 a0 a1 a2 a3 a4 a5 a6 a7 t ∧ kind8 a0 a1 a2 a3 a4 a5 a6 a7 t ≤ 7 := by
  unfold kind8
  repeat (split; exact ⟨by decide, by decide⟩)
  exact ⟨by decide, by decide⟩
/-- the boxes of a call: the settings at q, the weights behind them, then what is handed back -/
def AI (w : World) (g q : Nat) (c0 c1 c2 c3 c4 a0 a1 a2 a3 a4 a5 a6 a7 : Int) (x : Nat) (W : World) : Prop :=
  W.heap[q]? = some (.cells #[.int .i64 c0, .int .i64 c1, .int .i64 c2, .int .i64 c3, .int .i64 c4] 92 (0, 0)) ∧ W.heap[q + 1]? = some (.cells #[.int .i64 a0, .int .i64 a1, .int .i64 a2, .int .i64 a3, .int .i64 a4, .int .i64 a5, .int .i64 a6, .int .i64 a7] 110 (0, 0)) ∧ W.heap[q + 1 + 1]? = some (.cells #[.int .i64 0, .int .i64 0, .int .i64 0, .int .u64 0, .int .i64 0, .int .i64 0, .int .i64 0, .slice none 0 0] 106 (0, 0)) ∧ DAt 113 W g x ∧ OnlyS (· = g) w W ∧ g < q
section
variable {w W W' : World} {g q x y : Nat} {c0 c1 c2 c3 c4 a0 a1 a2 a3 a4 a5 a6 a7 : Int}
theorem ai_below (h : AI w g q c0 c1 c2 c3 c4 a0 a1 a2 a3 a4 a5 a6 a7 x W) (hb : Below W.heap.size W W') : AI w g q c0 c1 c2 c3 c4 a0 a1 a2 a3 a4 a5 a6 a7 x W' :=
  ⟨keep_at_all h.1 hb, keep_at_all h.2.1 hb, keep_at_all h.2.2.1 hb, d_below h.2.2.2.1 hb, h.2.2.2.2.1.below hb, h.2.2.2.2.2⟩
theorem ai_drew (h : AI w g q c0 c1 c2 c3 c4 a0 a1 a2 a3 a4 a5 a6 a7 x W) : AI w g q c0 c1 c2 c3 c4 a0 a1 a2 a3 a4 a5 a6 a7 x W.drew := ai_below h (bl_drew (Below.refl _ _) 1)
theorem ai_alloc (h : AI w g q c0 c1 c2 c3 c4 a0 a1 a2 a3 a4 a5 a6 a7 x W) (o : Obj) : AI w g q c0 c1 c2 c3 c4 a0 a1 a2 a3 a4 a5 a6 a7 x (W.alloc o) := ai_below h (bl_all (Below.refl _ _) _)
theorem ai_dice (h : AI w g q c0 c1 c2 c3 c4 a0 a1 a2 a3 a4 a5 a6 a7 x W) (hd : DAt 113 W' g y) (ho : OnlyS (· = g) W W') : AI w g q c0 c1 c2 c3 c4 a0 a1 a2 a3 a4 a5 a6 a7 y W' :=
  have hg := h.2.2.2.2.2
  ⟨blk_only h.1 ho (by omega), blk_only h.2.1 ho (by omega), blk_only h.2.2.1 ho (by omega), hd, h.2.2.2.2.1.trans ho (fun _ hk => .inl hk), hg⟩
theorem ai_set (h : AI w g q c0 c1 c2 c3 c4 a0 a1 a2 a3 a4 a5 a6 a7 x W) {p : Addr} (hp : q + 1 + 1 < p.block) (hw : w.heap.size ≤ p.block) (u : Value) : AI w g q c0 c1 c2 c3 c4 a0 a1 a2 a3 a4 a5 a6 a7 x (W.setCell p u) :=
  have hg := h.2.2.2.2.2
  ⟨far_at h.1 (by omega) u, far_at h.2.1 (by omega) u, far_at h.2.2.1 (by omega) u, far_at h.2.2.2.1 (by omega) u, h.2.2.2.2.1.set _ _ (.inr hw), hg⟩
theorem ai_ws (h : AI w g q c0 c1 c2 c3 c4 a0 a1 a2 a3 a4 a5 a6 a7 x W) : W.cell? ⟨q + 1, 0, none⟩ = some (.int .i64 a0) ∧ W.cell? ⟨q + 1, 1, none⟩ = some (.int .i64 a1) ∧ W.cell? ⟨q + 1, 2, none⟩ = some (.int .i64 a2) ∧ W.cell? ⟨q + 1, 3, none⟩ = some (.int .i64 a3) ∧ W.cell? ⟨q + 1, 4, none⟩ = some (.int .i64 a4) ∧ W.cell? ⟨q + 1, 5, none⟩ = some (.int .i64 a5) ∧ W.cell? ⟨q + 1, 6, none⟩ = some (.int .i64 a6) ∧ W.cell? ⟨q + 1, 7, none⟩ = some (.int .i64 a7) :=
  ⟨blk_cell h.2.1 0, blk_cell h.2.1 1, blk_cell h.2.1 2, blk_cell h.2.1 3, blk_cell h.2.1 4, blk_cell h.2.1 5, blk_cell h.2.1 6, blk_cell h.2.1 7⟩
theorem ai_cf (h : AI w g q c0 c1 c2 c3 c4 a0 a1 a2 a3 a4 a5 a6 a7 x W) : W.cell? ⟨q, 0, none⟩ = some (.int .i64 c0) ∧ W.cell? ⟨q, 1, none⟩ = some (.int .i64 c1) ∧ W.cell? ⟨q, 2, none⟩ = some (.int .i64 c2) ∧ W.cell? ⟨q, 3, none⟩ = some (.int .i64 c3) ∧ W.cell? ⟨q, 4, none⟩ = some (.int .i64 c4) :=
  ⟨blk_cell h.1 0, blk_cell h.1 1, blk_cell h.1 2, blk_cell h.1 3, blk_cell h.1 4⟩
theorem ai_d (h : AI w g q c0 c1 c2 c3 c4 a0 a1 a2 a3 a4 a5 a6 a7 x W) : DAt 113 W g x := h.2.2.2.1
theorem ai_lt (h : AI w g q c0 c1 c2 c3 c4 a0 a1 a2 a3 a4 a5 a6 a7 x W) : q + 1 + 1 < W.heap.size := lt_at h.2.2.1
end
theorem cl8 {W : World} {b t : Nat} {u0 u1 u2 u3 u4 u5 u6 u7 : Value} (h : W.heap[b]? = some (.cells #[u0, u1, u2, u3, u4, u5, u6, u7] t (0, 0))) : W.cell? ⟨b, 0, none⟩ = some u0 ∧ W.cell? ⟨b, 1, none⟩ = some u1 ∧ W.cell? ⟨b, 2, none⟩ = some u2 ∧ W.cell? ⟨b, 3, none⟩ = some u3 ∧ W.cell? ⟨b, 4, none⟩ = some u4 ∧ W.cell? ⟨b, 5, none⟩ = some u5 ∧ W.cell? ⟨b, 6, none⟩ = some u6 ∧ W.cell? ⟨b, 7, none⟩ = some u7 := ⟨blk_cell h 0, blk_cell h 1, blk_cell h 2, blk_cell h 3, blk_cell h 4, blk_cell h 5, blk_cell h 6, blk_cell h 7⟩
theorem fz8 {W : World} {b t : Nat} {cs : Array Value} (h : W.heap[b]? = some (.cells cs t (0, 0))) : W.frozen? ⟨b, 0, none⟩ = false ∧ W.frozen? ⟨b, 1, none⟩ = false ∧ W.frozen? ⟨b, 2, none⟩ = false ∧ W.frozen? ⟨b, 3, none⟩ = false ∧ W.frozen? ⟨b, 4, none⟩ = false ∧ W.frozen? ⟨b, 5, none⟩ = false ∧ W.frozen? ⟨b, 6, none⟩ = false ∧ W.frozen? ⟨b, 7, none⟩ = false := ⟨blk_frozen h 0, blk_frozen h 1, blk_frozen h 2, blk_frozen h 3, blk_frozen h 4, blk_frozen h 5, blk_frozen h 6, blk_frozen h 7⟩
theorem set8 {W : World} {b t : Nat} {u0 u1 u2 u3 u4 u5 u6 u7 v0 v1 v2 v3 v4 v5 v6 v7 : Value} (h : W.heap[b]? = some (.cells #[u0, u1, u2, u3, u4, u5, u6, u7] t (0, 0))) : (((((((((W.setCell ⟨b, 0, none⟩ v0).setCell ⟨b, 1, none⟩ v1).setCell ⟨b, 2, none⟩ v2).setCell ⟨b, 3, none⟩ v3).setCell ⟨b, 4, none⟩ v4).setCell ⟨b, 5, none⟩ v5).setCell ⟨b, 6, none⟩ v6).setCell ⟨b, 7, none⟩ v7)).heap[b]? = some (.cells #[v0, v1, v2, v3, v4, v5, v6, v7] t (0, 0)) := by
  have h1 : ((W).setCell ⟨b, 0, none⟩ v0).heap[b]? = some (.cells #[v0, u1, u2, u3, u4, u5, u6, u7] t (0, 0)) := set_at h 0 v0
  have h2 : (((W).setCell ⟨b, 0, none⟩ v0).setCell ⟨b, 1, none⟩ v1).heap[b]? = some (.cells #[v0, v1, u2, u3, u4, u5, u6, u7] t (0, 0)) := set_at h1 1 v1
  have h3 : ((((W).setCell ⟨b, 0, none⟩ v0).setCell ⟨b, 1, none⟩ v1).setCell ⟨b, 2, none⟩ v2).heap[b]? = some (.cells #[v0, v1, v2, u3, u4, u5, u6, u7] t (0, 0)) := set_at h2 2 v2
  have h4 : (((((W).setCell ⟨b, 0, none⟩ v0).setCell ⟨b, 1, none⟩ v1).setCell ⟨b, 2, none⟩ v2).setCell ⟨b, 3, none⟩ v3).heap[b]? = some (.cells #[v0, v1, v2, v3, u4, u5, u6, u7] t (0, 0)) := set_at h3 3 v3
  have h5 : ((((((W).setCell ⟨b, 0, none⟩ v0).setCell ⟨b, 1, none⟩ v1).setCell ⟨b, 2, none⟩ v2).setCell ⟨b, 3, none⟩ v3).setCell ⟨b, 4, none⟩ v4).heap[b]? = some (.cells #[v0, v1, v2, v3, v4, u5, u6, u7] t (0, 0)) := set_at h4 4 v4
  have h6 : (((((((W).setCell ⟨b, 0, none⟩ v0).setCell ⟨b, 1, none⟩ v1).setCell ⟨b, 2, none⟩ v2).setCell ⟨b, 3, none⟩ v3).setCell ⟨b, 4, none⟩ v4).setCell ⟨b, 5, none⟩ v5).heap[b]? = some (.cells #[v0, v1, v2, v3, v4, v5, u6, u7] t (0, 0)) := set_at h5 5 v5
  have h7 : ((((((((W).setCell ⟨b, 0, none⟩ v0).setCell ⟨b, 1, none⟩ v1).setCell ⟨b, 2, none⟩ v2).setCell ⟨b, 3, none⟩ v3).setCell ⟨b, 4, none⟩ v4).setCell ⟨b, 5, none⟩ v5).setCell ⟨b, 6, none⟩ v6).heap[b]? = some (.cells #[v0, v1, v2, v3, v4, v5, v6, u7] t (0, 0)) := set_at h6 6 v6
  have h8 : (((((((((W).setCell ⟨b, 0, none⟩ v0).setCell ⟨b, 1, none⟩ v1).setCell ⟨b, 2, none⟩ v2).setCell ⟨b, 3, none⟩ v3).setCell ⟨b, 4, none⟩ v4).setCell ⟨b, 5, none⟩ v5).setCell ⟨b, 6, none⟩ v6).setCell ⟨b, 7, none⟩ v7).heap[b]? = some (.cells #[v0, v1, v2, v3, v4, v5, v6, v7] t (0, 0)) := set_at h7 7 v7
  exact h8
theorem only8 (W : World) (b : Nat) (v0 v1 v2 v3 v4 v5 v6 v7 : Value) : OnlyS (· = b) W (((((((((W.setCell ⟨b, 0, none⟩ v0).setCell ⟨b, 1, none⟩ v1).setCell ⟨b, 2, none⟩ v2).setCell ⟨b, 3, none⟩ v3).setCell ⟨b, 4, none⟩ v4).setCell ⟨b, 5, none⟩ v5).setCell ⟨b, 6, none⟩ v6).setCell ⟨b, 7, none⟩ v7)) := by
  refine OnlyS.set (OnlyS.set (OnlyS.set (OnlyS.set (OnlyS.set (OnlyS.set (OnlyS.set (OnlyS.set (OnlyS.refl _ W) _ _ (.inl ?_)) _ _ (.inl ?_)) _ _ (.inl ?_)) _ _ (.inl ?_)) _ _ (.inl ?_)) _ _ (.inl ?_)) _ _ (.inl ?_)) _ _ (.inl ?_) <;> rfl
theorem ai_set8 {w W : World} {g q x b : Nat} {c0 c1 c2 c3 c4 a0 a1 a2 a3 a4 a5 a6 a7 : Int} {v0 v1 v2 v3 v4 v5 v6 v7 : Value} (h : AI w g q c0 c1 c2 c3 c4 a0 a1 a2 a3 a4 a5 a6 a7 x W) (hp : q + 1 + 1 < b) (hw : w.heap.size ≤ b) : AI w g q c0 c1 c2 c3 c4 a0 a1 a2 a3 a4 a5 a6 a7 x (((((((((W.setCell ⟨b, 0, none⟩ v0).setCell ⟨b, 1, none⟩ v1).setCell ⟨b, 2, none⟩ v2).setCell ⟨b, 3, none⟩ v3).setCell ⟨b, 4, none⟩ v4).setCell ⟨b, 5, none⟩ v5).setCell ⟨b, 6, none⟩ v6).setCell ⟨b, 7, none⟩ v7)) := by
  have h1 := ai_set (p := ⟨b, 0, none⟩) h hp hw v0
  have h2 := ai_set (p := ⟨b, 1, none⟩) h1 hp hw v1
  have h3 := ai_set (p := ⟨b, 2, none⟩) h2 hp hw v2
  have h4 := ai_set (p := ⟨b, 3, none⟩) h3 hp hw v3
  have h5 := ai_set (p := ⟨b, 4, none⟩) h4 hp hw v4
  have h6 := ai_set (p := ⟨b, 5, none⟩) h5 hp hw v5
  have h7 := ai_set (p := ⟨b, 6, none⟩) h6 hp hw v6
  have h8 := ai_set (p := ⟨b, 7, none⟩) h7 hp hw v7
  exact h8
theorem sum8_all {a0 a1 a2 a3 a4 a5 a6 a7 : Int} (h : sum8 a0 a1 a2 a3 a4 a5 a6 a7 ≠ 0) : All8 a0 a1 a2 a3 a4 a5 a6 a7 := by
  unfold sum8 at h
  by_cases hh : All8 a0 a1 a2 a3 a4 a5 a6 a7
  · exact hh
  · exact absurd (if_neg hh) h
theorem sum8_lt (a0 a1 a2 a3 a4 a5 a6 a7 : Int) : sum8 a0 a1 a2 a3 a4 a5 a6 a7 < 9223372036854775808 := by
  by_cases hh : All8 a0 a1 a2 a3 a4 a5 a6 a7
  · rw [show sum8 a0 a1 a2 a3 a4 a5 a6 a7 = _ from if_pos hh]
    unfold All8 Wt at hh
    omega
  · rw [show sum8 a0 a1 a2 a3 a4 a5 a6 a7 = _ from if_neg hh]
    decide
theorem sum8_pos {a0 a1 a2 a3 a4 a5 a6 a7 : Int} (h : sum8 a0 a1 a2 a3 a4 a5 a6 a7 ≠ 0) : 1 ≤ sum8 a0 a1 a2 a3 a4 a5 a6 a7 := by
  have ha := sum8_all h
  unfold sum8 at h ⊢
  rw [if_pos ha] at h ⊢
  unfold All8 Wt at ha
  omega
theorem sum8_less {a0 a1 a2 a3 a4 a5 a6 a7 : Int} (x : Nat) (h : sum8 a0 a1 a2 a3 a4 a5 a6 a7 ≠ 0) : lessN (sum8 a0 a1 a2 a3 a4 a5 a6 a7) x < a0 + a1 + a2 + a3 + a4 + a5 + a6 + a7 := by
  have h1 := lessN_lt (x := x) (sum8_pos h)
  have h2 : sum8 a0 a1 a2 a3 a4 a5 a6 a7 = a0 + a1 + a2 + a3 + a4 + a5 + a6 + a7 := if_pos (sum8_all h)
  rw [h2] at h1 ⊢
  exact h1
set_option maxRecDepth 20000 in
set_option maxHeartbeats 4000000 in
theorem act_with (g x : Nat) (c0 c1 c2 c3 c4 a0 a1 a2 a3 a4 a5 a6 a7 : Int) (w : World) (hl : Live x) (h : DAt 113 w g x) (hg : reqGood c0 c1 c2 c3 c4 = true) (hs : sum8 a0 a1 a2 a3 a4 a5 a6 a7 ≠ 0)
    (hF : ∀ (W : World) (b : Nat) (kind who : Int) (y : Nat), kind = kind8 a0 a1 a2 a3 a4 a5 a6 a7 (lessN (sum8 a0 a1 a2 a3 a4 a5 a6 a7) x) → 0 ≤ who → who < 2 → Live y → DAt 113 W g y → W.heap[b]? = some (.cells #[.int .i64 kind, .int .i64 who, .int .i64 0, .int .u64 0, .int .i64 0, .int .i64 0, .int .i64 0, .slice none 0 0] 106 (0, 0)) → g < b →
      Calls Try.prog 89 #[.pointer (some ⟨g, 0, none⟩), .pointer (some ⟨b, 0, none⟩), Cf c0 c1 c2 c3 c4] W (FillQ W g b (fillN c0 kind who y))) :
    Calls Try.prog 51 #[.pointer (some ⟨g, 0, none⟩), Cf c0 c1 c2 c3 c4, W8 a0 a1 a2 a3 a4 a5 a6 a7] w fun e w' => ∃ v, e = .returned (.agg (acells (actN c0 a0 a1 a2 a3 a4 a5 a6 a7 x).1 v)) ∧ Kd.R KB 5 w' w.heap.size (fun _ => True) v (actN c0 a0 a1 a2 a3 a4 a5 a6 a7 x).1.r.data ∧ DAt 113 w' g (actN c0 a0 a1 a2 a3 a4 a5 a6 a7 x).2 ∧ OnlyS (· = g) w w' := by
  have SM := Lib.hid (fun w => sum_walk a0 a1 a2 a3 a4 a5 a6 a7 w)
  have GD := Lib.hid (fun w => reqGood_walk c0 c1 c2 c3 c4 w)
  have H := Lib.hid h
  have HS := Lib.hid hs
  have HF := Lib.hid hF
  have HG := Lib.hid hg
  have hgw := d_lt h
  clear h hs hF hg
  go_enter Try.func51, Try.ntmps51
  go_upto_region 1 with (fail)
  have hA : AI w g w.heap.size c0 c1 c2 c3 c4 a0 a1 a2 a3 a4 a5 a6 a7 x (((w.alloc (.cells #[.int .i64 c0, .int .i64 c1, .int .i64 c2, .int .i64 c3, .int .i64 c4] 92)).alloc (.cells #[.int .i64 a0, .int .i64 a1, .int .i64 a2, .int .i64 a3, .int .i64 a4, .int .i64 a5, .int .i64 a6, .int .i64 a7] 110)).alloc (.cells #[.int .i64 0, .int .i64 0, .int .i64 0, .int .u64 0, .int .i64 0, .int .i64 0, .int .i64 0, .slice none 0 0] 106)) :=
    ⟨old_at (old_at (new_at _ _) _) _, old_at (new_at1 _ _ _) _, new_at2 _ _ _ _, old_at (old_at (old_at H.out _) _) _, ((OnlyS.refl _ _).alloc _).alloc _ |>.alloc _, hgw⟩
  generalize ((w.alloc (.cells #[.int .i64 c0, .int .i64 c1, .int .i64 c2, .int .i64 c3, .int .i64 c4] 92)).alloc (.cells #[.int .i64 a0, .int .i64 a1, .int .i64 a2, .int .i64 a3, .int .i64 a4, .int .i64 a5, .int .i64 a6, .int .i64 a7] 110)).alloc (.cells #[.int .i64 0, .int .i64 0, .int .i64 0, .int .u64 0, .int .i64 0, .int .i64 0, .int .i64 0, .slice none 0 0] 106) = W0 at hA ⊢
  generalize hq : w.heap.size = q at hA ⊢
  have HQ := Lib.hid hq
  clear hq H hgw
  obtain ⟨e0, e1, e2, e3, e4, e5, e6, e7⟩ := ai_ws hA
  have HA0 := Lib.hid hA
  clear hA
  go_upto_region 4 with (first
    | (go_at_call 87; refine (SM.out _).mono ?_; rintro e w1 ⟨rfl, hb1⟩; have HA1 := Lib.hid (ai_below HA0.out hb1); have hs0 : ¬ sum8 a0 a1 a2 a3 a4 a5 a6 a7 = 0 := HS.out; obtain ⟨f0, f1, f2, f3, f4⟩ := ai_cf HA1.out; clear e0 e1 e2 e3 e4 e5 e6 e7 HA0 hb1)
    | (go_at_call 83; refine (is_yes g x _ hl HA1.out.2.2.2.1).mono ?_; rintro e w2 ⟨rfl, rfl⟩)
    | (go_at_call 53; refine (GD.out _).mono ?_; rw [HG.out]; rintro e w3 ⟨rfl, hb3⟩; have HA3 := Lib.hid (ai_below HA1.out hb3); obtain ⟨e0, e1, e2, e3, e4, e5, e6, e7⟩ := ai_ws HA3.out; clear f0 f1 f2 f3 f4 HA1 hb3))
  have BL := Lib.hid (fun W (hW : DAt 113 W g x) => below_yes g x (sum8 a0 a1 a2 a3 a4 a5 a6 a7) W hl (sum8_lt _ _ _ _ _ _ _ _) hW)
  have KW := Lib.hid (fun W => kind_walk a0 a1 a2 a3 a4 a5 a6 a7 (lessN (sum8 a0 a1 a2 a3 a4 a5 a6 a7) x) W (sum8_all HS.out) lessN_le (sum8_less x HS.out))
  clear SM GD HG HS hs0
  generalize hkk : kind8 a0 a1 a2 a3 a4 a5 a6 a7 (lessN (sum8 a0 a1 a2 a3 a4 a5 a6 a7) x) = kk at KW
  generalize hxx : lessS (sum8 a0 a1 a2 a3 a4 a5 a6 a7) x = xx at BL
  generalize htt : lessN (sum8 a0 a1 a2 a3 a4 a5 a6 a7) x = tt at BL KW
  generalize hsm : sum8 a0 a1 a2 a3 a4 a5 a6 a7 = sm at BL ⊢
  have HKK := Lib.hid hkk
  have HXX := Lib.hid hxx
  have HTT := Lib.hid htt
  have HSM := Lib.hid hsm
  clear hkk hxx htt hsm
  go_cut [8] (fun v8 wc => ∃ b : Nat, v8 = .pointer (some ⟨b, 0, none⟩) ∧ Hid (wc.heap[b]? = some (.cells #[.int .i64 kk, .int .i64 0, .int .i64 0, .int .u64 0, .int .i64 0, .int .i64 0, .int .i64 0, .slice none 0 0] 106 (0, 0))) ∧ Hid (AI w g q c0 c1 c2 c3 c4 a0 a1 a2 a3 a4 a5 a6 a7 xx wc) ∧ q + 1 + 1 < b)
  case first =>
    refine start_ (n := 8) (S := fun w' => w'.cell? ⟨q + 1, 0, none⟩ = some (.int .i64 a0) ∧ w'.cell? ⟨q + 1, 1, none⟩ = some (.int .i64 a1) ∧ w'.cell? ⟨q + 1, 2, none⟩ = some (.int .i64 a2) ∧ w'.cell? ⟨q + 1, 3, none⟩ = some (.int .i64 a3) ∧ w'.cell? ⟨q + 1, 4, none⟩ = some (.int .i64 a4) ∧ w'.cell? ⟨q + 1, 5, none⟩ = some (.int .i64 a5) ∧ w'.cell? ⟨q + 1, 6, none⟩ = some (.int .i64 a6) ∧ w'.cell? ⟨q + 1, 7, none⟩ = some (.int .i64 a7)) (ds := [7]) #[false, false, false, false, false, false, false, false] (by kernel_rfl) rfl rfl ⟨e0, e1, e2, e3, e4, e5, e6, e7⟩ (fun hHeld => ?_)
    refine pure_ (i := 1) (N := some 25) (v := ?_) (a' := ?_) #[false, true, false, false, false, false, false, false] rfl rfl (by kernel_rfl) (fun _ _ _ h => h) (Or.inl ⟨by rfl, ?_⟩) ?_ ?_
    rotate_left
    · intro w'
      go_simp
      with_reducible rfl
    rotate_left
    · simp only [Act.put, List.setIfInBounds_toArray, List.set_cons_zero, List.set_cons_succ, i64_w, i32_w]
      rfl
    refine pure_ (i := 2) (N := some 26) (v := ?_) (a' := ?_) #[false, true, true, false, false, false, false, false] rfl rfl (by kernel_rfl) (fun _ _ _ h => h) (Or.inl ⟨by rfl, ?_⟩) ?_ ?_
    rotate_left
    · intro w'
      go_simp
      with_reducible rfl
    rotate_left
    · simp only [Act.put, List.setIfInBounds_toArray, List.set_cons_zero, List.set_cons_succ, i64_w, i32_w]
      rfl
    refine take_ (i := 0) (N := some 24) (v := ?_) (a' := ?_) #[true, true, true, false, false, false, false, false] rfl rfl (by kernel_rfl) (fun _ _ _ h => h) (Or.inl ⟨by rfl, ?_⟩) hHeld ?_ ?_
    rotate_left
    · rintro w' ⟨s0, s1, s2, s3, s4, s5, s6, s7⟩
      go_simp
      with_reducible rfl
    rotate_left
    · simp only [Act.put, List.setIfInBounds_toArray, List.set_cons_zero, List.set_cons_succ, i64_w, i32_w]
      rfl
    refine two_ (i := 3) (j := 6) (Ni := some 27) (Nj := some 8) #[true, true, true, true, false, false, false, false] #[true, true, true, false, false, false, true, false] rfl rfl rfl rfl (by kernel_rfl) (by decide) (by decide) (fun K hK => ?_) (fun K hK => ?_)
    · refine goes_ Try.func43 (by kernel_rfl) rfl #[.pointer (some ⟨g, 0, none⟩), .int .i64 sm] (by rfl) rfl rfl (by (try simp only [List.map_toArray, List.map_cons, List.map_nil]); first | done | rfl) ?_
      refine (BL.out _ (ai_d (ai_drew HA3.out))).mono ?_
      rintro e w4 ⟨rfl, hd4, ho4⟩
      have ha4 := ai_dice (ai_drew HA3.out) hd4 ho4
      refine ⟨_, rfl, ?_⟩
      refine hK.out _ _ (ai_ws ha4) (fun hHeld => ?_)
      clear hK K
      refine norm_ (a' := ?_) ?_ ?_
      rotate_left
      · show Act.put _ (some 27) _ = _
        simp only [Act.put, List.setIfInBounds_toArray, List.set_cons_zero, List.set_cons_succ, i64_w, i32_w]
        rfl
      refine two_ (i := 4) (j := 6) (Ni := some 28) (Nj := some 8) #[true, true, true, true, true, false, false, false] #[true, true, true, true, false, false, true, false] rfl rfl rfl rfl (by kernel_rfl) (by decide) (by decide) (fun K hK => ?_) (fun K hK => ?_)
      · refine goes_ Try.func88 (by kernel_rfl) rfl #[W8 a0 a1 a2 a3 a4 a5 a6 a7, .int .i64 tt] (by rfl) rfl rfl (by (try simp only [List.map_toArray, List.map_cons, List.map_nil]); first | done | rfl) ?_
        refine (KW.out _).mono ?_
        rintro e w5 ⟨rfl, hb5⟩
        have ha5 := ai_below (ha4) hb5
        refine ⟨_, rfl, ?_⟩
        refine hK.out _ _ (ai_ws ha5) (fun hHeld => ?_)
        clear hK K
        refine norm_ (a' := ?_) ?_ ?_
        rotate_left
        · show Act.put _ (some 28) _ = _
          simp only [Act.put, List.setIfInBounds_toArray, List.set_cons_zero, List.set_cons_succ, i64_w, i32_w]
          rfl
        refine pure_ (i := 5) (N := some 29) (v := ?_) (a' := ?_) #[true, true, true, true, true, true, false, false] rfl rfl (by kernel_rfl) (fun _ _ _ h => h) (Or.inl ⟨by rfl, ?_⟩) ?_ ?_
        rotate_left
        · intro w'
          go_simp
          with_reducible rfl
        rotate_left
        · simp only [Act.put, List.setIfInBounds_toArray, List.set_cons_zero, List.set_cons_succ, i64_w, i32_w]
          rfl
        refine one_ (i := 6) (N := some 8) #[true, true, true, true, true, true, true, false] rfl rfl (by kernel_rfl) (by decide) (fun K hK => ?_)
        go_simp
        have hn : ((w5.alloc (.cells #[.int .i64 0, .int .i64 0, .int .i64 0, .int .u64 0, .int .i64 0, .int .i64 0, .int .i64 0, .slice none 0 0] 106))).heap[w5.heap.size]? = some (.cells #[.int .i64 0, .int .i64 0, .int .i64 0, .int .u64 0, .int .i64 0, .int .i64 0, .int .i64 0, .slice none 0 0] 106 (0, 0)) := new_at _ _
        have ha6 := ai_alloc (ha5) (.cells #[.int .i64 0, .int .i64 0, .int .i64 0, .int .u64 0, .int .i64 0, .int .i64 0, .int .i64 0, .slice none 0 0] 106)
        refine hK.out _ _ (ai_ws ha6) (fun hHeld => ?_)
        clear hK K
        obtain ⟨n0, n1, n2, n3, n4, n5, n6, n7⟩ := cl8 hn
        obtain ⟨m0, m1, m2, m3, m4, m5, m6, m7⟩ := fz8 hn
        refine last_ (i := 7) (N := none) #[true, true, true, true, true, true, true, true] rfl rfl (by kernel_rfl) (by decide) (fun K hK => ?_)
        go_simp
        refine hK.out _ _ ?_
        clear hK K
        refine done_ (by kernel_rfl) ?_
        go_wp2
        go_meet
        case rel => exact ⟨_, rfl, Lib.hid (new_at w5 _), Lib.hid (ai_alloc ha5 _), ai_lt ha5⟩
      · go_simp
        have hn : ((w4.alloc (.cells #[.int .i64 0, .int .i64 0, .int .i64 0, .int .u64 0, .int .i64 0, .int .i64 0, .int .i64 0, .slice none 0 0] 106))).heap[w4.heap.size]? = some (.cells #[.int .i64 0, .int .i64 0, .int .i64 0, .int .u64 0, .int .i64 0, .int .i64 0, .int .i64 0, .slice none 0 0] 106 (0, 0)) := new_at _ _
        have ha6 := ai_alloc (ha4) (.cells #[.int .i64 0, .int .i64 0, .int .i64 0, .int .u64 0, .int .i64 0, .int .i64 0, .int .i64 0, .slice none 0 0] 106)
        refine hK.out _ _ (ai_ws ha6) (fun hHeld => ?_)
        clear hK K
        refine one_ (i := 4) (N := some 28) #[true, true, true, true, true, false, true, false] rfl rfl (by kernel_rfl) (by decide) (fun K hK => ?_)
        refine goes_ Try.func88 (by kernel_rfl) rfl #[W8 a0 a1 a2 a3 a4 a5 a6 a7, .int .i64 tt] (by rfl) rfl rfl (by (try simp only [List.map_toArray, List.map_cons, List.map_nil]); first | done | rfl) ?_
        refine (KW.out _).mono ?_
        rintro e w5 ⟨rfl, hb5⟩
        have ha5 := ai_below (ha6) hb5
        have hn5 := keep_at_all hn hb5
        refine ⟨_, rfl, ?_⟩
        refine hK.out _ _ (ai_ws ha5) (fun hHeld => ?_)
        clear hK K
        refine norm_ (a' := ?_) ?_ ?_
        rotate_left
        · show Act.put _ (some 28) _ = _
          simp only [Act.put, List.setIfInBounds_toArray, List.set_cons_zero, List.set_cons_succ, i64_w, i32_w]
          rfl
        refine pure_ (i := 5) (N := some 29) (v := ?_) (a' := ?_) #[true, true, true, true, true, true, true, false] rfl rfl (by kernel_rfl) (fun _ _ _ h => h) (Or.inl ⟨by rfl, ?_⟩) ?_ ?_
        rotate_left
        · intro w'
          go_simp
          with_reducible rfl
        rotate_left
        · simp only [Act.put, List.setIfInBounds_toArray, List.set_cons_zero, List.set_cons_succ, i64_w, i32_w]
          rfl
        obtain ⟨n0, n1, n2, n3, n4, n5, n6, n7⟩ := cl8 hn5
        obtain ⟨m0, m1, m2, m3, m4, m5, m6, m7⟩ := fz8 hn5
        refine last_ (i := 7) (N := none) #[true, true, true, true, true, true, true, true] rfl rfl (by kernel_rfl) (by decide) (fun K hK => ?_)
        go_simp
        refine hK.out _ _ ?_
        clear hK K
        refine done_ (by kernel_rfl) ?_
        go_wp2
        go_meet
        case rel => exact ⟨_, rfl, Lib.hid (set8 hn5), Lib.hid (ai_set8 ha5 (ai_lt ha4) (by have := HQ.out; have := (ai_lt ha4); omega)), (ai_lt ha4)⟩
    · go_simp
      have hn : ((w3.alloc (.cells #[.int .i64 0, .int .i64 0, .int .i64 0, .int .u64 0, .int .i64 0, .int .i64 0, .int .i64 0, .slice none 0 0] 106)).drew).heap[w3.heap.size]? = some (.cells #[.int .i64 0, .int .i64 0, .int .i64 0, .int .u64 0, .int .i64 0, .int .i64 0, .int .i64 0, .slice none 0 0] 106 (0, 0)) := new_at _ _
      have ha6 := ai_alloc (HA3.out) (.cells #[.int .i64 0, .int .i64 0, .int .i64 0, .int .u64 0, .int .i64 0, .int .i64 0, .int .i64 0, .slice none 0 0] 106)
      refine hK.out _ _ (ai_ws (ai_drew ha6)) (fun hHeld => ?_)
      clear hK K
      refine one_ (i := 3) (N := some 27) #[true, true, true, true, false, false, true, false] rfl rfl (by kernel_rfl) (by decide) (fun K hK => ?_)
      refine goes_ Try.func43 (by kernel_rfl) rfl #[.pointer (some ⟨g, 0, none⟩), .int .i64 sm] (by rfl) rfl rfl (by (try simp only [List.map_toArray, List.map_cons, List.map_nil]); first | done | rfl) ?_
      refine (BL.out _ (ai_d (ai_drew ha6))).mono ?_
      rintro e w4 ⟨rfl, hd4, ho4⟩
      have ha4 := ai_dice (ai_drew ha6) hd4 ho4
      have hn4 := blk_only (S := fun k => k = g) hn ho4 (fun (he : w3.heap.size = g) => by have h1 := ai_lt HA3.out; have h2 := HA3.out.2.2.2.2.2; omega)
      refine ⟨_, rfl, ?_⟩
      refine hK.out _ _ (ai_ws ha4) (fun hHeld => ?_)
      clear hK K
      refine norm_ (a' := ?_) ?_ ?_
      rotate_left
      · show Act.put _ (some 27) _ = _
        simp only [Act.put, List.setIfInBounds_toArray, List.set_cons_zero, List.set_cons_succ, i64_w, i32_w]
        rfl
      refine one_ (i := 4) (N := some 28) #[true, true, true, true, true, false, true, false] rfl rfl (by kernel_rfl) (by decide) (fun K hK => ?_)
      refine goes_ Try.func88 (by kernel_rfl) rfl #[W8 a0 a1 a2 a3 a4 a5 a6 a7, .int .i64 tt] (by rfl) rfl rfl (by (try simp only [List.map_toArray, List.map_cons, List.map_nil]); first | done | rfl) ?_
      refine (KW.out _).mono ?_
      rintro e w5 ⟨rfl, hb5⟩
      have ha5 := ai_below (ha4) hb5
      have hn5 := keep_at_all hn4 hb5
      refine ⟨_, rfl, ?_⟩
      refine hK.out _ _ (ai_ws ha5) (fun hHeld => ?_)
      clear hK K
      refine norm_ (a' := ?_) ?_ ?_
      rotate_left
      · show Act.put _ (some 28) _ = _
        simp only [Act.put, List.setIfInBounds_toArray, List.set_cons_zero, List.set_cons_succ, i64_w, i32_w]
        rfl
      refine pure_ (i := 5) (N := some 29) (v := ?_) (a' := ?_) #[true, true, true, true, true, true, true, false] rfl rfl (by kernel_rfl) (fun _ _ _ h => h) (Or.inl ⟨by rfl, ?_⟩) ?_ ?_
      rotate_left
      · intro w'
        go_simp
        with_reducible rfl
      rotate_left
      · simp only [Act.put, List.setIfInBounds_toArray, List.set_cons_zero, List.set_cons_succ, i64_w, i32_w]
        rfl
      obtain ⟨n0, n1, n2, n3, n4, n5, n6, n7⟩ := cl8 hn5
      obtain ⟨m0, m1, m2, m3, m4, m5, m6, m7⟩ := fz8 hn5
      refine last_ (i := 7) (N := none) #[true, true, true, true, true, true, true, true] rfl rfl (by kernel_rfl) (by decide) (fun K hK => ?_)
      go_simp
      refine hK.out _ _ ?_
      clear hK K
      refine done_ (by kernel_rfl) ?_
      go_wp2
      go_meet
      case rel => exact ⟨_, rfl, Lib.hid (set8 hn5), Lib.hid (ai_set8 ha5 (ai_lt HA3.out) (by have := HQ.out; have := (ai_lt HA3.out); omega)), (ai_lt HA3.out)⟩
  case rest =>
    obtain ⟨b, rfl, hbk, hai, hlt⟩ := hcut
    have hlx : Live xx := by rw [← HXX.out]; exact lessS_live hl
    have BL2 := Lib.hid (fun W (hW : DAt 113 W g xx) => below_yes g xx 2 W hlx (by decide) hW)
    have hgb : g < b := by have := hai.out.2.2.2.2.2; omega
    have hwho := Lib.hid (And.intro (lessN_le (n := 2) (x := xx)) (lessN_lt (n := 2) (x := xx) (by decide)))
    have hly : Live (lessS 2 xx) := lessS_live hlx
    have eA : actN c0 a0 a1 a2 a3 a4 a5 a6 a7 x = fillN c0 kk (lessN 2 xx) (lessS 2 xx) := by unfold actN; rw [HKK.out, HXX.out]
    have HF2 := Lib.hid (fun (W : World) (hd : DAt 113 W g (lessS 2 xx)) (hb : W.heap[b]? = some (.cells #[.int .i64 kk, .int .i64 (lessN 2 xx), .int .i64 0, .int .u64 0, .int .i64 0, .int .i64 0, .int .i64 0, .slice none 0 0] 106 (0, 0))) => HF.out W b kk (lessN 2 xx) (lessS 2 xx) HKK.out.symm hwho.out.1 hwho.out.2 hly hd hb hgb)
    generalize lessN 2 xx = who at BL2 HF2 eA
    generalize lessS 2 xx = yy at BL2 HF2 eA
    generalize fillN c0 kk who yy = ac at HF2 eA
    have EA := Lib.hid eA
    clear eA HF HKK HXX HTT HSM hlx hly hwho
    go_wp2_with (
      (go_at_call 43; refine (BL2.out _ (ai_d hai.out)).mono ?_; rintro e w4 ⟨rfl, hd4, ho4⟩; have ha4 := Lib.hid (ai_dice hai.out hd4 ho4); have hb4 := Lib.hid (blk_only (S := fun k => k = g) hbk.out ho4 (fun he => by omega)); obtain ⟨f0, f1, f2, f3, f4⟩ := ai_cf ha4.out; obtain ⟨n0, n1, n2, n3, n4, n5, n6, n7⟩ := cl8 hb4.out; obtain ⟨m0, m1, m2, m3, m4, m5, m6, m7⟩ := fz8 hb4.out; clear hd4 ho4))
    have hwb : w.heap.size ≤ b := by have := HQ.out; omega
    have hai2 := ai_set (p := ⟨b, 1, none⟩) ha4.out hlt hwb (.int .i64 who)
    refine (HF2.out _ (ai_d hai2) (set_at hb4.out 1 _)).mono ?_
    rintro e w6 ⟨rfl, v6, hb6, hr6, hd6, ho6⟩
    obtain ⟨A6, c6, rfl⟩ := Kd.R_slice hr6
    clear n0 n1 n2 n3 n4 n5 n6 n7 m0 m1 m2 m3 m4 m5 m6 m7 f0 f1 f2 f3 f4
    have hgq := hai2.2.2.2.2.2
    have hz6 := blk_only (S := fun k => k = g ∨ k = b) hai2.2.2.1 ho6 (fun he => by omega)
    have hR6 := Lib.hid hr6
    have hD6 := Lib.hid hd6
    have hO6 := Lib.hid ho6
    have HZ6 := Lib.hid hz6
    have hai3 := Lib.hid hai2
    obtain ⟨n0, n1, n2, n3, n4, n5, n6, n7⟩ := cl8 hb6
    obtain ⟨m0, m1, m2, m3, m4, m5, m6, m7⟩ := fz8 hz6
    obtain ⟨k0, k1, k2, k3, k4, k5, k6, k7⟩ := cl8 hz6
    clear hr6 hd6 ho6 hb6 hz6 hai2
    go_wp2_with fail
    refine bodyPost_ret (results_cell_row rfl _ _ (q + 1 + 1) 106 (acells ac.1 (.slice A6 ac.1.r.data.length c6)) (0, 0) _ rfl (set8 HZ6.out) Try.underlying106 rfl (by kernel_rfl)) rfl ?_
    have hai2 := hai3.out
    have hsz := ai_lt hai2
    rw [EA.out]
    refine ⟨_, rfl, ?_, ?_, ?_⟩
    · refine Kd.R_lower (Kd.R_mono (Kd.R_step (Kd.R_bound hR6.out) (fun k hk hlt => (only8 _ _ _ _ _ _ _ _ _ _).block k hlt (fun he => by have h1 := hk.2.1; subst he; exact absurd hsz (Nat.not_lt.2 h1)))) (fun _ _ => trivial)) ?_
      have := hai2.2.2.2.2.1.size
      exact this
    · exact d_only hD6.out (only8 _ _ _ _ _ _ _ _ _ _) (fun he => by omega)
    · exact (hai2.2.2.2.2.1.trans hO6.out (fun k hk => by rcases hk with hk | hk; exact .inl hk; exact .inr (by have := HQ.out; omega))).trans (only8 _ _ _ _ _ _ _ _ _ _) (fun k hk => .inr (by have := HQ.out; omega))
end Go.Proofs.Ytoobbolaoldacaa.DiceW
