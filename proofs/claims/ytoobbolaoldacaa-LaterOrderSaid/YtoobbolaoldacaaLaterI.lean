/-
  Which write may go: the iterator over those that may.
-/
import Derived.Test.YtoobbolaoldacaaLaterC
import Derived.Shelf.Abstract
import Derived.Shelf.RegionOpen
import Derived.OwnWalkIn
import Derived.TacticsInMore
import Derived.LoopNIn
import Derived.LoopIn
namespace Go.Proofs.Ytoobbolaoldacaa.LaterW
open Go.RowKit Go.Proofs.Ytoobbolaoldacaa Go.Proofs.Ytoobbolaoldacaa.Later Go.Proofs.Ytoobbolaoldacaa.LaterSP Go.Proofs.Ytoobbolaoldacaa.LaterP Go.Proofs.Ytoobbolaoldacaa.RowOwn Go.Proofs.Ytoobbolaoldacaa.CloneB Go.Proofs.YtoobbolaoldacaaW.PrintWords Go.Proofs.YtoobbolaoldacaaW.PrintLast Go.Proofs.YtoobbolaoldacaaW.PrintMore
set_option linter.unusedVariables false
def goN (own : List S38) (x : Wr) : Bool := !(own.any fun y => clBlocks x.off x.len y.f0.f0 y.f0.f1 y.f1)
def nextN (own : List S38) (L : List Wr) : Option Nat := L.findIdx? (goN own)
theorem verdict_go (own : List S38) (x : Wr) : clash_Verdict.f false own x.off x.len = some (if goN own x then 0 else 3) := by
  rw [verdict_at]
  unfold goN
  cases own.any (fun y => clBlocks x.off x.len y.f0.f0 y.f0.f1 y.f1) <;> rfl
theorem nextN_some {own : List S38} {L : List Wr} {k : Nat} (hk : k < L.length) (h : goN own L[k] = true) (hb : ∀ j, ∀ hj : j < L.length, j < k → goN own L[j] = false) : nextN own L = some k :=
  List.findIdx?_eq_some_iff_getElem.2 ⟨hk, h, fun j hj => by simp [hb j (by omega) hj]⟩
theorem nextN_none {own : List S38} {L : List Wr} (hb : ∀ j, ∀ hj : j < L.length, goN own L[j] = false) : nextN own L = none :=
  List.findIdx?_eq_none_iff.2 (fun x hx => by
    obtain ⟨j, hj, rfl⟩ := List.mem_iff_getElem.1 hx
    exact hb j hj)
theorem free_c (g : Nat) (A : Option Addr) (n c : Nat) (w : World) : Calls Try.prog 63 #[.pointer (some ⟨g, 0, none⟩), .slice A n c] w fun e w' => e = .returned (.func (.func 96) #[] #[.pointer (some ⟨w.heap.size, 0, none⟩), .pointer (some ⟨w.heap.size + 1, 0, none⟩)]) ∧ (w.alloc (.cells #[.pointer (some ⟨g, 0, none⟩)] 24)).alloc (.cells #[.slice A n c] 39) = w' := by
  have hmf : ∀ (fn : Fn) (first cap : Array Value) (w : World), (Instr.makeFunc fn first cap).run Try.prog w = .ok (.func fn first cap) w := fun _ _ _ _ => rfl
  go_enter Try.func63, Try.ntmps63
  go_wp2
  go_ret
  exact ⟨rfl, rfl⟩
section
open Go.Shelf
attribute [local go_sem] Oper.semAt_some
theorem abides_bl {B : Nat} {J : World → Prop} (hJ : AbidesFrom B (fun (_ : Unit) => J)) {w w' : World} (h : J w) (hb : Below w.heap.size w w') : J w' :=
  hJ () w w' none h (grown_of_below hb) (fun r e => by cases e)
set_option maxRecDepth 100000 in
set_option maxHeartbeats 2000000 in
theorem free_first (n gb : Nat) (g base : Nat) (L : List Wr) (S : Nat → Prop) (own : List S38) (Ao : Option Addr) (co : Nat) (w : World) (h : QAt w g base L S) (hC : Kd.C k38 w Ao own.length own) (hco : own.length ≤ co)
    (hb1 : w.heap[gb]? = some (.cells #[.pointer (some ⟨g, 0, none⟩)] 24 (0, 0))) (hb2 : w.heap[gb + 1]? = some (.cells #[.slice Ao own.length co] 39 (0, 0))) :
    SeqFirst Fence.wide n Try.prog 96 #[.pointer (some ⟨gb, 0, none⟩), .pointer (some ⟨gb + 1, 0, none⟩)] (fun k : Nat => #[.int .i64 (k : Int)]) (nextN own L) w := by
  intro l J Jx W hW hJ hY h0
  have hQ := rw_below h hW
  have hn := (rw_lt h).2.2
  have hbW1 := keep_at_all hb1 hW
  have hbW2 := keep_at_all hb2 hW
  obtain ⟨_, A, c, c1, hc, hCL, _⟩ := q_cells hQ
  have HCL := Lib.hid hCL
  have HCO := Lib.hid (Kd.C_below hC hW)
  have HB1 := Lib.hid hbW1
  have HB2 := Lib.hid hbW2
  have q1 : W.cell? ⟨gb, 0, none⟩ = some (.pointer (some ⟨g, 0, none⟩)) := blk_cell hbW1 0
  have hu := Try.underlying34
  have HJ := Lib.hid hJ
  have HY := Lib.hid hY
  have HJ0 := Lib.hid h0
  clear h hC hb1 hb2 hW hCL hbW1 hbW2 hQ hJ hY h0
  refine callsIn_of_wp Try.func96 rfl trivial ?_ rfl
  simp only [Try.ntmps96, List.size_toArray, List.length_cons, List.length_nil, Nat.reduceAdd, Nat.reduceSub, Array.replicate_succ, Array.replicate_zero, List.push_toArray, List.append_toArray, List.nil_append, List.cons_append]
  gi_wp2_with fail
  gi_loopw [11] (fun i wr => ∃ (k : Nat), k ≤ L.length ∧ i = .int .i64 k ∧ Below W.heap.size W wr ∧ J wr ∧ ∀ j, ∀ hj : j < L.length, j < k → goN own L[j] = false)
    (fun i _ => L.length - (intOf i).toNat)
  case atStart => exact ⟨0, Nat.zero_le _, rfl, Below.refl _ _, HJ0.out, fun j hj hk => by omega⟩
  case round =>
    obtain ⟨k, hk, rfl, hB, hj, hno⟩ := hrel
    have HBL := Lib.hid hB
    have HJR := Lib.hid hj
    have HNO := Lib.hid hno
    have hsW := hB.size
    clear hB hj hno
    by_cases hlt : k < L.length
    · have hlt' : (k : Int) < (L.length : Int) := by omega
      obtain ⟨ad, D, cd, rfl, x0, x1, x2, x3, _, _⟩ := at_KW (Kd.C_below HCL.out HBL.out) k hlt
      have q2 : wr.cell? ⟨gb + 1, 0, none⟩ = some (.slice Ao own.length co) := blk_cell (keep_at_all HB2.out HBL.out) 0
      have qa2 : ∀ o, (wr.alloc o).cell? ⟨gb + 1, 0, none⟩ = some (.slice Ao own.length co) := fun o => blk_cell (old_at (keep_at_all HB2.out HBL.out) o) 0
      have HGO := Lib.hid (verdict_go own L[k])
      have VD := Lib.hid (fun (u : World) (hu : Below wr.heap.size wr u) => clash_Verdict.calls false Ao co own L[k].off L[k].len _ u (Kd.C_below (Kd.C_below HCO.out HBL.out) hu) hco HGO.out)
      obtain ⟨b, hgb⟩ : ∃ b, goN own L[k] = b := ⟨_, rfl⟩
      rw [hgb] at VD
      have HGB := Lib.hid hgb
      clear hgb HGO
      generalize hyo : L[k].off = yo at x1 VD
      generalize hyl : L[k].len = yl at x2 VD
      generalize L[k].id = yi at x0
      generalize L[k].data.length = yd at x3
      clear hyo hyl
      cases b with
      | true =>
        gi_wp2_with fail
        refine ⟨trivial, fun h => absurd h (by decide), ?_⟩
        refine (callsIn_wide.2 (VD.out _ (bl_all (Below.refl _ _) _))).mono ?_
        rintro e w1 ⟨rfl, hb1⟩
        have hj1 := abides_bl HJ.out HJR.out (bl_to (bl_all (Below.refl _ _) _) hb1 (by simp))
        obtain ⟨fn, tmps, assign, body, hy, hR⟩ := HY.out k w1 (nextN_some hlt HGB.out HNO.out) hj1
        have HRR := Lib.hid hR
        clear hR hb1 hj1
        gi_wp2_with fail
        refine ⟨fun h => absurd h (by decide), (HRR.out).mono ?_⟩
        rintro e w3 ⟨rfl, hjx⟩
        gi_wp2_with fail
        refine bodyPost_ret (v := .tuple #[]) (by simp [results, Try.results96, go_sem]) rfl ?_
        exact ⟨⟨_, rfl⟩, .inr ⟨⟨k, nextN_some hlt HGB.out HNO.out⟩, hjx⟩⟩
      | false =>
        gi_wp2_with fail
        refine ⟨trivial, fun h => absurd h (by decide), ?_⟩
        refine (callsIn_wide.2 (VD.out _ (bl_all (Below.refl _ _) _))).mono ?_
        rintro e w1 ⟨rfl, hb1⟩
        have hj1 := abides_bl HJ.out HJR.out (bl_to (bl_all (Below.refl _ _) _) hb1 (by simp))
        have hjb := abides_bl HJ.out HJR.out (bl_to (bl_all (Below.refl _ _) _) hb1 (by simp))
        have hbb := bl_to (HBL.out.alloc hsW _) hb1 (by simp; omega)
        have HJB := Lib.hid hjb
        have HBB := Lib.hid hbb
        clear hj1 hjb hbb hb1
        gi_wp2_with fail
        refine ⟨fun _ h => (by cases h), ?_⟩
        gi_wp2_with fail
        refine ⟨⟨k + 1, by omega, by go_num, HBB.out, HJB.out, fun j hj hjk => ?_⟩, by simp [intOf]; omega⟩
        by_cases he : j = k
        · subst he; exact HGB.out
        · exact HNO.out j hj (by omega)
    · have hlt' : ¬ (k : Int) < (L.length : Int) := by omega
      have hnone : nextN own L = none := nextN_none (fun j hj => HNO.out j hj (by omega))
      have HN := Lib.hid hnone
      clear hnone
      gi_wp2_with fail
      go_end0
      exact ⟨⟨_, rfl⟩, .inl ⟨HN.out, HJR.out⟩⟩
end
end Go.Proofs.Ytoobbolaoldacaa.LaterW
