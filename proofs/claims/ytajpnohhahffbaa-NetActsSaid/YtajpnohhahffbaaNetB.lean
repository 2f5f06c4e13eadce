/-
  The program's net and the reference's side by side.
-/
import Derived.Test.YtajpnohhahffbaaNetO
import Derived.Test.YtajpnohhahffbaaRNetP
namespace Go.Proofs.Ytajpnohhahffbaa.NetW
open Go.RowKit Go.Proofs.Ytajpnohhahffbaa Go.Proofs.Ytajpnohhahffbaa.RowOwn Go.Proofs.Ytajpnohhahffbaa.CloneB Go.Proofs.YtajpnohhahffbaaW.PrintWords Go.Proofs.YtajpnohhahffbaaW.PrintMore
set_option linter.unusedVariables false
/-- the act that is played lies in a block of its own -/
def actObj (y0 y1 y2 : Int) (A : Option Addr) (n c : Nat) : Obj := .cells #[.int .i64 y0, .int .i64 y1, .int .i64 y2, .slice A n c] 63 (0, 0)
/-- both nets; what the reference's holds lies below nb; the block q is the act's -/
def AS (w0 : World) (g q nb : Nat) (o : Obj) (L0 L1 M0 M1 : List (List Int)) (u : World) : Prop :=
  ∃ S S', NetAt u g g L0 L1 S ∧ RNetAt u (g + 1) (g + 1) M0 M1 S' ∧ (∀ k, S k → ¬ S' k ∧ k ≠ q) ∧ (∀ k, S' k → k ≠ q ∧ k < nb) ∧ u.heap[q]? = some o ∧ Below g w0 u
variable {w0 u : World} {g q nb : Nat} {o : Obj} {L0 L1 M0 M1 A0 A1 : List (List Int)}
theorem as_lt (h : AS w0 g q nb o L0 L1 M0 M1 u) : g < u.heap.size ∧ q < u.heap.size := by
  obtain ⟨S, S', hN, hR, hd, hd', hq, hb⟩ := h
  exact ⟨(net_lt hN).2, lt_at hq⟩
theorem as_bel (h : AS w0 g q nb o L0 L1 M0 M1 u) : Below g w0 u := by
  obtain ⟨S, S', hN, hR, hd, hd', hq, hb⟩ := h
  exact hb
theorem as_blk (h : AS w0 g q nb o L0 L1 M0 M1 u) : u.heap[q]? = some o := by
  obtain ⟨S, S', hN, hR, hd, hd', hq, hb⟩ := h
  exact hq
theorem as_below {u' : World} (h : AS w0 g q nb o L0 L1 M0 M1 u) (hb' : Below u.heap.size u u') : AS w0 g q nb o L0 L1 M0 M1 u' := by
  have hl := as_lt h
  obtain ⟨S, S', hN, hR, hd, hd', hq, hb⟩ := h
  exact ⟨S, S', net_below hN hb', Rnet_below hR hb', hd, hd', keep_at_all hq hb', bl_to hb hb' (by omega)⟩
theorem as_net {f : FuncId} {args : Array Value} {R : Ending → World → Prop} (h : AS w0 g q nb o L0 L1 M0 M1 u)
    (hc : ∀ S, NetAt u g g L0 L1 S → Calls Try.prog f args u fun e w' => R e w' ∧ ∃ S1, NetAt w' g g A0 A1 S1 ∧ (∀ k, S1 k → S k ∨ u.heap.size ≤ k) ∧ OnlyS S u w') :
    Calls Try.prog f args u fun e w' => R e w' ∧ AS w0 g q nb o A0 A1 M0 M1 w' := by
  have hl := as_lt h
  obtain ⟨S, S', hN, hR, hd, hd', hq, hb⟩ := h
  have hlr : ∀ k, S' k → k < u.heap.size := by
    obtain ⟨_, _, _, _, _, _, _, _, _, _, _, hl, _⟩ := hR
    exact fun k hk => (hl k hk).2
  refine (hc S hN).mono ?_
  rintro e w' ⟨he, S1, hN1, hS1, ho⟩
  refine ⟨he, S1, S', hN1, Rnet_only hR ho (fun k hk hs => (hd k hs).1 hk), fun k hk => ?_, hd', blk_only hq ho (fun hs => (hd q hs).2 rfl), net_bl hN ho hb⟩
  rcases hS1 k hk with h1 | h1
  · exact hd k h1
  · exact ⟨fun hs => by have := hlr k hs; omega, by omega⟩
theorem as_ref {f : FuncId} {args : Array Value} {R : Ending → World → Prop} (h : AS w0 g q nb o L0 L1 M0 M1 u)
    (hc : ∀ S, RNetAt u (g + 1) (g + 1) M0 M1 S → Calls Try.prog f args u fun e w' => R e w' ∧ ∃ S1, RNetAt w' (g + 1) (g + 1) A0 A1 S1 ∧ (∀ k, S1 k → S k ∨ u.heap.size ≤ k) ∧ OnlyS S u w') :
    Calls Try.prog f args u fun e w' => R e w' ∧ AS w0 g q w'.heap.size o L0 L1 A0 A1 w' ∧ ∀ v b base, nb ≤ base → Kd.R KB 5 u base (fun _ => True) v b → Kd.R KB 5 w' base (fun _ => True) v b := by
  have hl := as_lt h
  obtain ⟨S, S', hN, hR, hd, hd', hq, hb⟩ := h
  have hln : ∀ k, S k → k < u.heap.size := by
    obtain ⟨_, _, _, _, _, _, _, _, _, _, _, hl, _⟩ := hN
    exact fun k hk => (hl k hk).2
  have hlr : ∀ k, S' k → g + 1 ≤ k ∧ k < u.heap.size := by
    obtain ⟨_, _, _, _, _, _, _, _, _, _, _, hl, _⟩ := hR
    exact fun k hk => hl k hk
  refine (hc S' hR).mono ?_
  rintro e w' ⟨he, S1, hR1, hS1, ho⟩
  have hl1 : ∀ k, S1 k → k < w'.heap.size := by
    obtain ⟨_, _, _, _, _, _, _, _, _, _, _, hl, _⟩ := hR1
    exact fun k hk => (hl k hk).2
  refine ⟨he, ⟨S, S1, net_only hN ho (fun k hk hs => (hd k hk).1 hs), hR1, fun k hk => ⟨fun hs => ?_, (hd k hk).2⟩, fun k hk => ⟨?_, hl1 k hk⟩, blk_only hq ho (fun hs => (hd' q hs).1 rfl), ho.to_below hb (fun k hk => by have := (hlr k hk).1; omega) (by omega)⟩, fun v b base hnb hr => ?_⟩
  · rcases hS1 k hs with h1 | h1
    · exact (hd k hk).1 h1
    · have := hln k hk; omega
  · rcases hS1 k hk with h1 | h1
    · exact (hd' k h1).1
    · omega
  · exact Kd.R_mono (Kd.R_step (Kd.R_bound hr) (fun k hk hlt => ho.block k hlt (fun hs => by have := (hd' k hs).2; have := hk.2.1; omega))) (fun _ _ => trivial)
theorem as_drew (h : AS w0 g q nb o L0 L1 M0 M1 u) (n : Nat) : AS w0 g q nb o L0 L1 M0 M1 (u.drewN n) := as_below h (bl_drew (Below.refl _ _) n)
theorem as_put (d : Int) (A : Option Addr) (c : Nat) (b : List Int) (h : AS w0 g q nb o L0 L1 M0 M1 u) (hl : b.length ≤ 300) (hr : Kd.C KB u A b.length b) :
    Calls Try.prog 38 #[.pointer (some ⟨g, 0, none⟩), .int .i64 d, .slice A b.length c] u fun e w' => e = .returned (.int .i64 (putN d b L0 L1).1) ∧ AS w0 g q nb o (putN d b L0 L1).2.1 (putN d b L0 L1).2.2 M0 M1 w' :=
  as_net h (fun S hS => Put_c g g d L0 L1 S A c b u hS hl hr)
theorem as_rput (d : Int) (A : Option Addr) (c : Nat) (b : List Int) (h : AS w0 g q nb o L0 L1 M0 M1 u) (hl : b.length ≤ 300) (hr : Kd.C KB u A b.length b) :
    Calls Try.prog 39 #[.pointer (some ⟨g + 1, 0, none⟩), .int .i64 d, .slice A b.length c] u fun e w' => e = .returned (.int .i64 (putN d b M0 M1).1) ∧ AS w0 g q w'.heap.size o L0 L1 (putN d b M0 M1).2.1 (putN d b M0 M1).2.2 w' :=
  (as_ref h (fun S hS => RPut_c (g + 1) (g + 1) d M0 M1 S A c b u hS hl hr)).mono fun e w' ⟨he, h1, _⟩ => ⟨he, h1⟩
theorem as_double (d i : Int) (h : AS w0 g q nb o L0 L1 M0 M1 u) :
    Calls Try.prog 42 #[.pointer (some ⟨g, 0, none⟩), .int .i64 d, .int .i64 i] u fun e w' => e = .returned (.int .i64 (doubleN d i L0 L1).1) ∧ AS w0 g q nb o (doubleN d i L0 L1).2.1 (doubleN d i L0 L1).2.2 M0 M1 w' :=
  as_net h (fun S hS => Double_c g g d i L0 L1 S u hS)
theorem as_rdouble (d i : Int) (h : AS w0 g q nb o L0 L1 M0 M1 u) :
    Calls Try.prog 43 #[.pointer (some ⟨g + 1, 0, none⟩), .int .i64 d, .int .i64 i] u fun e w' => e = .returned (.int .i64 (doubleN d i M0 M1).1) ∧ AS w0 g q w'.heap.size o L0 L1 (doubleN d i M0 M1).2.1 (doubleN d i M0 M1).2.2 w' :=
  (as_ref h (fun S hS => RDouble_c (g + 1) (g + 1) d i M0 M1 S u hS)).mono fun e w' ⟨he, h1, _⟩ => ⟨he, h1⟩
theorem as_take (d i : Int) (h : AS w0 g q nb o L0 L1 M0 M1 u) :
    Calls Try.prog 40 #[.pointer (some ⟨g, 0, none⟩), .int .i64 d, .int .i64 i] u fun e w' => (∃ v, e = .returned (.tuple #[v, .int .i64 (atN d i L0 L1).1]) ∧ Kd.R KB 5 w' u.heap.size (fun _ => True) v (atN d i L0 L1).2) ∧ AS w0 g q nb o (takeN d i L0 L1).2.1 (takeN d i L0 L1).2.2 M0 M1 w' :=
  as_net h (fun S hS => (Take_c g g d i L0 L1 S u hS).mono fun e w' ⟨v, he, hr, r⟩ => ⟨⟨v, he, hr⟩, r⟩)
theorem as_rtake (d i : Int) (h : AS w0 g q nb o L0 L1 M0 M1 u) :
    Calls Try.prog 41 #[.pointer (some ⟨g + 1, 0, none⟩), .int .i64 d, .int .i64 i] u fun e w' => (∃ v, e = .returned (.tuple #[v, .int .i64 (atN d i M0 M1).1]) ∧ Kd.R KB 5 w' u.heap.size (fun _ => True) v (atN d i M0 M1).2) ∧ AS w0 g q w'.heap.size o L0 L1 (takeN d i M0 M1).2.1 (takeN d i M0 M1).2.2 w' ∧ ∀ v b base, nb ≤ base → Kd.R KB 5 u base (fun _ => True) v b → Kd.R KB 5 w' base (fun _ => True) v b :=
  as_ref h (fun S hS => (RTake_c (g + 1) (g + 1) d i M0 M1 S u hS).mono fun e w' ⟨v, he, hr, r⟩ => ⟨⟨v, he, hr⟩, r⟩)
theorem as_at (d i : Int) (h : AS w0 g q nb o L0 L1 M0 M1 u) :
    Calls Try.prog 44 #[.pointer (some ⟨g, 0, none⟩), .int .i64 d, .int .i64 i] u fun e w' => ∃ v, e = .returned (.tuple #[v, .int .i64 (atN d i L0 L1).1]) ∧ Kd.R KB 5 w' u.heap.size (fun _ => True) v (atN d i L0 L1).2 ∧ Below u.heap.size u w' := by
  obtain ⟨S, S', hN, hR, hd, hd', hq, hb⟩ := h
  exact At_c g g d i L0 L1 S u hN
theorem as_rat (d i : Int) (h : AS w0 g q nb o L0 L1 M0 M1 u) :
    Calls Try.prog 45 #[.pointer (some ⟨g + 1, 0, none⟩), .int .i64 d, .int .i64 i] u fun e w' => ∃ v, e = .returned (.tuple #[v, .int .i64 (atN d i M0 M1).1]) ∧ Kd.R KB 5 w' u.heap.size (fun _ => True) v (atN d i M0 M1).2 ∧ Below u.heap.size u w' := by
  obtain ⟨S, S', hN, hR, hd, hd', hq, hb⟩ := h
  exact RAt_c (g + 1) (g + 1) d i M0 M1 S' u hR
theorem as_len (d : Int) (h : AS w0 g q nb o L0 L1 M0 M1 u) :
    Calls Try.prog 46 #[.pointer (some ⟨g, 0, none⟩), .int .i64 d] u fun e w' => e = .returned (.int .i64 (lenN d L0 L1)) ∧ u = w' := by
  obtain ⟨S, S', hN, hR, hd, hd', hq, hb⟩ := h
  exact Len_c g g d L0 L1 S u hN
theorem as_rlen (d : Int) (h : AS w0 g q nb o L0 L1 M0 M1 u) :
    Calls Try.prog 47 #[.pointer (some ⟨g + 1, 0, none⟩), .int .i64 d] u fun e w' => e = .returned (.int .i64 (lenN d M0 M1)) ∧ u = w' := by
  obtain ⟨S, S', hN, hR, hd, hd', hq, hb⟩ := h
  exact RLen_c (g + 1) (g + 1) d M0 M1 S' u hR
end Go.Proofs.Ytajpnohhahffbaa.NetW
