/-
  The state of a queue of writes, the program's and the reference's.
-/
import Derived.Test.YtoobbolaoldacaaLaterP
import Derived.Test.YtoobbolaoldacaaRowOwn
import Derived.Test.YtoobbolaoldacaaRangeFirst
import Derived.Test.YtoobbolaoldacaaRoundIn
import Derived.Test.YtoobbolaoldacaaY
import Derived.Test.YtoobbolaoldacaaWLast
import Derived.Test.YtoobbolaoldacaaWTab
import Derived.Deep.QuietTactic
import Derived.BigQuiet
import Derived.Deep.RegionHeld3
import Derived.Deep.RegionWith
import Derived.Deep.RegionLaw
import Derived.Lib.SliceRun
import Derived.WalkLawsBesides
namespace Go.Proofs.Ytoobbolaoldacaa.LaterW
open Go.RowKit Go.Proofs.Ytoobbolaoldacaa Go.Proofs.Ytoobbolaoldacaa.Later Go.Proofs.Ytoobbolaoldacaa.LaterSP Go.Proofs.Ytoobbolaoldacaa.LaterP Go.Proofs.Ytoobbolaoldacaa.RowOwn Go.Proofs.YtoobbolaoldacaaW.PrintWords Go.Proofs.YtoobbolaoldacaaW.PrintLast Go.Proofs.YtoobbolaoldacaaW.PrintMore
set_option linter.unusedVariables false
structure Wr where
  id : Int
  off : Int
  len : Int
  data : List Int
abbrev KB : Kd Int := Kd.int .u8
def KW : Kd Wr := Kd.iso (Kd.pair (Kd.int .i64) (Kd.pair (Kd.int .i64) (Kd.pair (Kd.int .i64) (Kd.slice 5 KB)))) (fun x : Wr => (x.id, x.off, x.len, x.data))
theorem KW_open {w : World} {x : Wr} {cs : List Value} (h : KW.K w x cs) : ∃ A c, cs = [.int .i64 x.id, .int .i64 x.off, .int .i64 x.len, .slice A x.data.length c] ∧ x.data.length ≤ c ∧ KB.C w A x.data.length x.data := by
  obtain ⟨_, _, rfl, rfl, _, _, rfl, rfl, _, _, rfl, rfl, ⟨A, c, rfl, hc, hC⟩⟩ := h
  exact ⟨A, c, rfl, hc, hC⟩
theorem KW_openM {w : World} {base : Nat} {ok : Nat → Prop} {x : Wr} {cs : List Value} (h : KW.M w base ok x cs) : ∃ v, cs = [.int .i64 x.id, .int .i64 x.off, .int .i64 x.len, v] ∧ Kd.R KB 5 w base ok v x.data := by
  obtain ⟨_, _, rfl, rfl, _, _, rfl, rfl, _, _, rfl, rfl, ⟨v, rfl, hR⟩⟩ := h
  exact ⟨v, rfl, hR⟩
theorem KW_mkM {w : World} {base : Nat} {ok : Nat → Prop} (x : Wr) {v : Value} (h : Kd.R KB 5 w base ok v x.data) : KW.M w base ok x [.int .i64 x.id, .int .i64 x.off, .int .i64 x.len, v] :=
  ⟨[.int .i64 x.id], [.int .i64 x.off, .int .i64 x.len, v], rfl, rfl, [.int .i64 x.off], [.int .i64 x.len, v], rfl, rfl, [.int .i64 x.len], [v], rfl, rfl, ⟨v, rfl, h⟩⟩
theorem info34 : (Try.prog.info? 34).map (fun i => (i.zero, i.size, i.bytes)) = some (some (.agg #[.int .i64 0, .int .i64 0, .int .i64 0, .slice none 0 0]), KW.sz, 48) := by kernel_rfl
theorem info62 : (Try.prog.info? 62).map (fun i => (i.zero, i.size, i.bytes)) = some (some (.agg #[.int .i64 0, .int .i64 0, .int .i64 0, .slice none 0 0]), KW.sz, 48) := by kernel_rfl
/-- an element of a row of writes, as it is read -/
theorem at_KW {w : World} {A : Option Addr} {n : Nat} {xs : List Wr} (h : Kd.C KW w A n xs) (i : Nat) (hi : i < xs.length) :
    ∃ ad D c, A = some ad ∧ w.cell? (ad.add (i * 4)) = some (.int .i64 xs[i].id) ∧ w.cell? ⟨(ad.add (i * 4)).block, (ad.add (i * 4)).off + 1, none⟩ = some (.int .i64 xs[i].off) ∧ w.cell? ⟨(ad.add (i * 4)).block, (ad.add (i * 4)).off + 2, none⟩ = some (.int .i64 xs[i].len) ∧ w.cell? ⟨(ad.add (i * 4)).block, (ad.add (i * 4)).off + 3, none⟩ = some (.slice D xs[i].data.length c) ∧ xs[i].data.length ≤ c ∧ Kd.C KB w D xs[i].data.length xs[i].data := by
  have hn : xs.length = n := h.1
  obtain ⟨ad, c, e, _, hK, hc0⟩ := Kd.C_get h (⟨0, 0, 0, []⟩ : Wr) (i : Int) (by omega) (by omega)
  rw [Int.toNat_natCast] at hK hc0
  rw [List.getD_eq_getElem?_getD, List.getElem?_eq_getElem hi] at hK
  have hc : ∀ j u, c[j]? = some u → w.cell? (ad.add (i * 4 + j)) = some u := hc0
  obtain ⟨A0, c0, rfl, hl, hC⟩ := KW_open hK
  exact ⟨ad, A0, c0, e, hc 0 _ rfl, by rw [← add_field _ _ 1 (by omega)]; exact hc 1 _ rfl, by rw [← add_field _ _ 2 (by omega)]; exact hc 2 _ rfl, by rw [← add_field _ _ 3 (by omega)]; exact hc 3 _ rfl, hl, hC⟩
/-- the same, of a row that is the object's own: what is read is made -/
theorem at_row {w : World} {base e : Nat} {ok : Nat → Prop} {v : Value} {xs : List Wr} (h : Row KW e w base ok v xs) (i : Nat) (hi : i < xs.length) :
    ∃ ad D c, (∃ n, v = .slice (some ad) xs.length n ∧ xs.length ≤ n) ∧ w.cell? (ad.add (i * 4)) = some (.int .i64 xs[i].id) ∧ w.cell? ⟨(ad.add (i * 4)).block, (ad.add (i * 4)).off + 1, none⟩ = some (.int .i64 xs[i].off) ∧ w.cell? ⟨(ad.add (i * 4)).block, (ad.add (i * 4)).off + 2, none⟩ = some (.int .i64 xs[i].len) ∧ w.cell? ⟨(ad.add (i * 4)).block, (ad.add (i * 4)).off + 3, none⟩ = some (.slice D xs[i].data.length c) ∧ Kd.R KB 5 w base ok (.slice D xs[i].data.length c) xs[i].data := by
  obtain ⟨A, c, rfl, hle, _⟩ := row_reads h
  obtain ⟨A', c', he, hm⟩ := row_made h
  injection he with h1 h2 h3
  subst h1
  subst h3
  obtain ⟨ad, news, rfl, hr, hcell⟩ := hm.2 (by omega)
  obtain ⟨cs, hcs, hM⟩ : ∃ cs, cs = (news.drop (i * KW.sz)).take KW.sz ∧ KW.M w base (fun k => ok k ∧ some k ≠ (Value.slice (some ad) xs.length c).ownBlock) xs[i] cs := ⟨_, rfl, hr.2 i _ (List.getElem?_eq_getElem hi)⟩
  obtain ⟨v, hv, hR⟩ := KW_openM hM
  rw [hv] at hcs
  have hsz : KW.sz = 4 := rfl
  rw [hsz] at hcs
  have hc : ∀ j u, [Value.int .i64 xs[i].id, .int .i64 xs[i].off, .int .i64 xs[i].len, v][j]? = some u → w.cell? (ad.add (i * 4 + j)) = some u := by
    intro j u hu
    have hj : j < 4 := by have := (List.getElem?_eq_some_iff.1 hu).1; simpa using this
    rw [hcs, List.getElem?_take, if_pos hj, List.getElem?_drop] at hu
    exact hcell _ _ hu
  obtain ⟨D, cd, rfl⟩ := Kd.R_slice hR
  exact ⟨ad, D, cd, ⟨c, rfl, hle⟩, hc 0 _ rfl, by rw [← add_field _ _ 1 (by omega)]; exact hc 1 _ rfl, by rw [← add_field _ _ 2 (by omega)]; exact hc 2 _ rfl, by rw [← add_field _ _ 3 (by omega)]; exact hc 3 _ rfl, Kd.R_mono hR (fun k hk => hk.1)⟩
/-- an object of one block that holds a row of writes -/
def RowAt (e t : Nat) (hd : Value → Array Value) (w : World) (g base : Nat) (L : List Wr) (S : Nat → Prop) : Prop :=
  ∃ v ok, w.heap[g]? = some (.cells (hd v) t (0, 0)) ∧ Row KW e w base ok v L ∧ S g ∧ base ≤ g ∧ (∀ k, ok k → S k ∧ k ≠ g) ∧ (∀ k, S k → base ≤ k ∧ k < w.heap.size) ∧ L.length ≤ 100000
section
variable {e t : Nat} {hd : Value → Array Value} {w w1 : World} {g base : Nat} {L : List Wr} {S T : Nat → Prop}
theorem rw_lt (h : RowAt e t hd w g base L S) : base ≤ g ∧ g < w.heap.size ∧ L.length ≤ 100000 := by
  obtain ⟨v, ok, hh, hr, hS, hb, hd, hl, hn⟩ := h
  exact ⟨hb, lt_at hh, hn⟩
theorem rw_S (h : RowAt e t hd w g base L S) (k : Nat) (hk : S k) : base ≤ k ∧ k < w.heap.size := by
  obtain ⟨v, ok, hh, hr, hS, hb, hd, hl, hn⟩ := h
  exact hl k hk
theorem rw_only (h : RowAt e t hd w g base L S) (ho : OnlyS T w w1) (hT : ∀ k, S k → ¬ T k) : RowAt e t hd w1 g base L S := by
  obtain ⟨v, ok, hh, hr, hS, hb, hd, hl, hn⟩ := h
  exact ⟨v, ok, blk_only hh ho (hT g hS), row_only hr ho (fun k hk => hT k (hd k hk).1), hS, hb, hd, fun k hk => ⟨(hl k hk).1, Nat.lt_of_lt_of_le (hl k hk).2 ho.size⟩, hn⟩
theorem rw_below (h : RowAt e t hd w g base L S) (hb : Below w.heap.size w w1) : RowAt e t hd w1 g base L S := rw_only (T := fun _ => False) h (OnlyS.of_below hb) (fun _ _ hf => hf)
theorem rw_bl {w0 : World} (h : RowAt e t hd w g base L S) (ho : OnlyS S w w1) (hb : Below base w0 w) : Below base w0 w1 := by
  obtain ⟨v, ok, hh, hr, hS, hb', hd, hl, hn⟩ := h
  exact ho.to_below hb (fun k hk => (hl k hk).1) (by have := lt_at hh; omega)
theorem rw_cells {j : Nat} (hj : ∀ v, (hd v)[j]? = some v) (h : RowAt e t hd w g base L S) :
    ∃ A c, w.cell? ⟨g, j, none⟩ = some (.slice A L.length c) ∧ L.length ≤ c ∧ Kd.C KW w A L.length L ∧ w.frozen? ⟨g, j, none⟩ = false := by
  obtain ⟨v, ok, hh, hr, hS, hb, hd', hl, hn⟩ := h
  obtain ⟨A, c, rfl, hc, hC⟩ := row_reads hr
  refine ⟨A, c, ?_, hc, hC, blk_frozen hh j⟩
  have hj0 := hj (.slice A L.length c)
  obtain ⟨hlt, hge⟩ := Array.getElem?_eq_some_iff.1 hj0
  have := blk_cell hh j
  simpa [hj0] using this
/-- the row's new value is stored -/
theorem rw_put {W : World} {j : Nat} {M : List Wr} {v v0 : Value} {ok0 okn : Nat → Prop} {row : Option Nat} (hset : ∀ v u, (hd v).setIfInBounds j u = hd u) (het : ∀ q, q ∈ e :: KW.E → q ≠ t)
    (hh : w.heap[g]? = some (.cells (hd v0) t (0, 0))) (hS : S g) (hb : base ≤ g) (d0 : ∀ k, ok0 k → S k ∧ k ≠ g) (hl : ∀ k, S k → base ≤ k ∧ k < w.heap.size)
    (hbl : Below w.heap.size w W) (hg : W.grownBy w1 row) (hrow : ∀ k, row = some k → ok0 k) (hokn : ∀ k, okn k → ok0 k ∨ w.heap.size ≤ k) (hr : Row KW e w1 base okn v M) (sM : M.length ≤ 100000) :
    ∃ S', RowAt e t hd (w1.setCell ⟨g, j, none⟩ v) g base M S' ∧ (∀ k, S' k → S k ∨ w.heap.size ≤ k) ∧ OnlyS S w (w1.setCell ⟨g, j, none⟩ v) := by
  have o2 : OnlyS S w w1 := (OnlyS.of_below hbl).grown hg (fun k hk => .inl (d0 k (hrow k hk)).1)
  have o3 : OnlyS S w (w1.setCell ⟨g, j, none⟩ v) := o2.set _ _ (.inl hS)
  have hgW : w1.heap[g]? = some (.cells (hd v0) t (0, 0)) := keep_at_grown (keep_at_all hh hbl) hg (fun he => (d0 g (hrow g he.symm)).2 rfl)
  have hst := set_at hgW j v
  rw [hset] at hst
  have hrb := row_bound (row_types hr (g := g) (t := t) hgW het)
  have hrF : Row KW e (w1.setCell ⟨g, j, none⟩ v) base (fun k => (okn k ∧ k ≠ g) ∧ base ≤ k ∧ k < w1.heap.size) v M := row_step hrb (fun k hk _ => Below.heap_setCell w1 ⟨g, j, none⟩ v k hk.1.2)
  have hsz : (w1.setCell ⟨g, j, none⟩ v).heap.size = w1.heap.size := by simp [World.setCell]
  refine ⟨fun k => k = g ∨ ((okn k ∧ k ≠ g) ∧ base ≤ k ∧ k < w1.heap.size), ⟨v, _, hst, hrF, .inl rfl, hb, fun k hk => ⟨.inr hk, hk.1.2⟩, fun k hk => ?_, sM⟩, fun k hk => ?_, o3⟩
  · rw [hsz]
    rcases hk with rfl | hk
    · exact ⟨hb, lt_at hgW⟩
    · exact hk.2
  · rcases hk with rfl | hk
    · exact .inl hS
    · rcases hokn k hk.1.1 with h2 | h2
      · exact .inl (d0 k h2).1
      · exact .inr h2
theorem rw_new (w : World) (g : Nat) (h : w.heap[g]? = some (.cells (hd (.slice none 0 0)) t (0, 0))) : RowAt e t hd w g g [] (fun k => k = g) :=
  ⟨_, fun _ => False, h, row_nil _ _ _ _ _, rfl, Nat.le_refl _, fun _ hk => hk.elim, fun k hk => by subst hk; exact ⟨Nat.le_refl _, lt_at h⟩, by simp⟩
end
def hdQ (v : Value) : Array Value := #[.bool true, v]
def hdR (v : Value) : Array Value := #[v]
abbrev QAt := RowAt 34 73 hdQ
abbrev RQAt := RowAt 62 60 hdR
theorem q_cells {w : World} {g base : Nat} {L : List Wr} {S : Nat → Prop} (h : QAt w g base L S) :
    w.cell? ⟨g, 0, none⟩ = some (.bool true) ∧ ∃ A c, w.cell? ⟨g, 1, none⟩ = some (.slice A L.length c) ∧ L.length ≤ c ∧ Kd.C KW w A L.length L ∧ w.frozen? ⟨g, 1, none⟩ = false := by
  refine ⟨?_, rw_cells (fun _ => rfl) h⟩
  obtain ⟨v, ok, hh, _⟩ := h
  exact blk_cell hh 0
theorem rq_cells {w : World} {g base : Nat} {L : List Wr} {S : Nat → Prop} (h : RQAt w g base L S) :
    ∃ A c, w.cell? ⟨g, 0, none⟩ = some (.slice A L.length c) ∧ L.length ≤ c ∧ Kd.C KW w A L.length L ∧ w.frozen? ⟨g, 0, none⟩ = false := rw_cells (fun _ => rfl) h
end Go.Proofs.Ytoobbolaoldacaa.LaterW
