/-
  Dice: what a script is by script.Good, and script.Same (printed by tools/mkdiceq.py).
-/
import Derived.Test.YtoobbolaoldacaaDiceQ
namespace Go.Proofs.Ytoobbolaoldacaa.DiceW
open Go.RowKit Go.Proofs.Ytoobbolaoldacaa Go.Proofs.Ytoobbolaoldacaa.Dice Go.Proofs.Ytoobbolaoldacaa.DiceP Go.Proofs.Ytoobbolaoldacaa.RowOwn Go.Proofs.YtoobbolaoldacaaW.PrintWords Go.Proofs.YtoobbolaoldacaaW.PrintLast Go.Proofs.YtoobbolaoldacaaW.PrintMore
set_option linter.unusedVariables false
theorem fn92 (a : Ac) (B : Option Addr) (d : Nat) (w : World) (h : script_act.f a.kind a.who a.at_ a.mask a.r.kd a.r.off a.r.len a.r.data = some true) (hd : a.r.data.length ≤ d) (hB : Kd.C KB w B a.r.data.length a.r.data) :
    Calls Try.prog 92 #[.agg (acells a (.slice B a.r.data.length d))] w fun e w' => e = .returned (.bool false) ∧ Below w.heap.size w w' := by
  have HB := Lib.hid hB
  have H := Lib.hid h
  clear h hB
  go_enter Try.func92, Try.ntmps92
  go_wp2_with (go_at_call 93; refine (script_act.calls _ _ _ _ _ _ _ B d _ true _ (Kd.C_below HB.out (bl_all (Below.refl _ _) _)) hd H.out).mono ?_; rintro e w1 ⟨rfl, hb1⟩)
  go_ret
  exact ⟨rfl, bl_then (bl_all (Below.refl _ _) _) hb1⟩
set_option maxRecDepth 20000 in
theorem index113 (A : Option Addr) (c : Nat) (L : List Ac) (w : World) (hl : L.length ≤ 1000) (hC : Kd.C KA w A L.length L) (hok : ∀ a ∈ L, script_act.f a.kind a.who a.at_ a.mask a.r.kd a.r.off a.r.len a.r.data = some true) :
    Calls Try.prog 113 #[.slice A L.length c, .func (.func 92) #[] #[]] w fun e w' => e = .returned (.int .i64 (-1)) ∧ Below w.heap.size w w' := by
  have HC := Lib.hid hC
  have HOK := Lib.hid hok
  clear hC hok
  go_enter Try.func113, Try.ntmps113
  go_wp2_with fail
  go_loopw [8] (fun iv wr => ∃ (k : Nat), k ≤ L.length ∧ iv = .int .i64 (k : Int) ∧ Hid (Below w.heap.size w wr)) (fun i _ => L.length - (intOf i).toNat)
  case atStart => exact ⟨0, Nat.zero_le _, rfl, Lib.hid (Below.refl _ _)⟩
  case round =>
    obtain ⟨k, hk, rfl, hb⟩ := hrel
    by_cases hlt : k < L.length
    · have hlt' : (k : Int) < (L.length : Int) := by omega
      obtain ⟨ad, B, d, hAd, y0, y1, y2, y3, y4, y5, y6, y7, hd, hB⟩ := at_KA (Kd.C_below HC.out hb.out) k hlt
      subst hAd
      have CALL := Lib.hid (fun W (hW : Kd.C KB W B L[k].r.data.length L[k].r.data) => fn92 L[k] B d W (HOK.out _ (List.getElem_mem hlt)) hd hW)
      have HB := Lib.hid hB
      generalize L[k] = a at y0 y1 y2 y3 y4 y5 y6 y7 hd HB CALL
      clear hB
      go_wp2_with (go_at_call 92; refine (CALL.out _ HB.out).mono ?_; rintro e w1 ⟨rfl, hb1⟩)
      exact ⟨⟨k + 1, by omega, by go_num, Lib.hid (bl_then hb.out hb1)⟩, by simp [intOf]; omega⟩
    · have hlt' : ¬ (k : Int) < (L.length : Int) := by omega
      go_wp2_with fail
      go_ret
      exact ⟨rfl, hb.out⟩
theorem contains91 (A : Option Addr) (c : Nat) (L : List Ac) (w : World) (hl : L.length ≤ 1000) (hC : Kd.C KA w A L.length L) (hok : ∀ a ∈ L, script_act.f a.kind a.who a.at_ a.mask a.r.kd a.r.off a.r.len a.r.data = some true) :
    Calls Try.prog 91 #[.slice A L.length c, .func (.func 92) #[] #[]] w fun e w' => e = .returned (.bool false) ∧ Below w.heap.size w w' := by
  have IX := Lib.hid (index113 A c L w hl hC hok)
  clear hC hok
  go_enter Try.func91, Try.ntmps91
  go_wp2_with (go_at_call 113; refine IX.out.mono ?_; rintro e w1 ⟨rfl, hb1⟩)
  go_ret
  exact ⟨rfl, hb1⟩
theorem good59 (c0 c1 c2 c3 c4 : Int) (A : Option Addr) (c : Nat) (L : List Ac) (w : World) (hg : reqGood c0 c1 c2 c3 c4 = true) (hl : L.length ≤ 1000) (hC : Kd.C KA w A L.length L) (hok : ∀ a ∈ L, script_act.f a.kind a.who a.at_ a.mask a.r.kd a.r.off a.r.len a.r.data = some true) :
    Calls Try.prog 59 #[Cf c0 c1 c2 c3 c4, .slice A L.length c] w fun e w' => e = .returned (.bool true) ∧ Below w.heap.size w w' := by
  have GD := Lib.hid (fun w => reqGood_walk c0 c1 c2 c3 c4 w)
  have HG := Lib.hid hg
  have HC := Lib.hid hC
  have HOK := Lib.hid hok
  have hl' : (L.length : Int) ≤ 1000 := by omega
  clear hg hC hok
  go_enter Try.func59, Try.ntmps59
  go_wp2_with (first
    | (go_at_call 53; refine (GD.out _).mono ?_; rw [HG.out]; rintro e w1 ⟨rfl, hb1⟩)
    | (go_at_call 91; refine (contains91 A c L _ hl (Kd.C_below HC.out (bl_then (bl_all (Below.refl _ _) _) hb1)) HOK.out).mono ?_; rintro e w2 ⟨rfl, hb2⟩))
  go_ret
  exact ⟨rfl, bl_then (bl_then (bl_all (Below.refl _ _) _) hb1) hb2⟩
theorem same115 (r : Rq) (A A' : Option Addr) (c c' : Nat) (w : World) (h : Kd.C KB w A r.data.length r.data) (hc : r.data.length ≤ c) (h' : Kd.C KB w A' r.data.length r.data) (hc' : r.data.length ≤ c') :
    Calls Try.prog 115 #[.agg #[.int .i64 r.kd, .int .i64 r.off, .int .i64 r.len, .slice A r.data.length c], .agg #[.int .i64 r.kd, .int .i64 r.off, .int .i64 r.len, .slice A' r.data.length c']] w fun e w' => e = .returned (.bool true) ∧ Below w.heap.size w w' :=
  request_Same.calls _ _ _ A c _ _ _ _ A' c' _ true w h hc h' hc' (by simp [request_Same.f, bytes_Equal.f])
theorem same95 (a : Ac) (B B' : Option Addr) (d d' : Nat) (w : World) (hd : a.r.data.length ≤ d) (hB : Kd.C KB w B a.r.data.length a.r.data) (hd' : a.r.data.length ≤ d') (hB' : Kd.C KB w B' a.r.data.length a.r.data) :
    Calls Try.prog 95 #[.agg (acells a (.slice B a.r.data.length d)), .agg (acells a (.slice B' a.r.data.length d'))] w fun e w' => e = .returned (.bool true) ∧ Below w.heap.size w w' := by
  have HB := Lib.hid hB
  have HB' := Lib.hid hB'
  clear hB hB'
  go_enter Try.func95, Try.ntmps95
  go_wp2_with (go_at_call 115; refine (same115 a.r B B' d d' _ (Kd.C_below HB.out (bl_all (bl_all (Below.refl _ _) _) _)) hd (Kd.C_below HB'.out (bl_all (bl_all (Below.refl _ _) _) _)) hd').mono ?_; rintro e w1 ⟨rfl, hb1⟩)
  go_ret
  exact ⟨rfl, bl_then (bl_all (bl_all (Below.refl _ _) _) _) hb1⟩
set_option maxRecDepth 20000 in
set_option maxHeartbeats 2000000 in
theorem equal94 (A A' : Option Addr) (c c' : Nat) (L : List Ac) (w : World) (hl : L.length ≤ 1000) (hC : Kd.C KA w A L.length L) (hC' : Kd.C KA w A' L.length L) :
    Calls Try.prog 94 #[.slice A L.length c, .slice A' L.length c', .func (.func 95) #[] #[]] w fun e w' => e = .returned (.bool true) ∧ Below w.heap.size w w' := by
  have HC := Lib.hid hC
  have HC' := Lib.hid hC'
  clear hC hC'
  go_enter Try.func94, Try.ntmps94
  go_wp2_with fail
  go_loopw [17] (fun iv wr => ∃ (k : Nat), k ≤ L.length ∧ iv = .int .i64 (k : Int) ∧ Hid (Below w.heap.size w wr)) (fun i _ => L.length - (intOf i).toNat)
  case atStart => exact ⟨0, Nat.zero_le _, rfl, Lib.hid (Below.refl _ _)⟩
  case round =>
    obtain ⟨k, hk, rfl, hb⟩ := hrel
    by_cases hlt : k < L.length
    · have hlt' : (k : Int) < (L.length : Int) := by omega
      obtain ⟨ad, B, d, hAd, y0, y1, y2, y3, y4, y5, y6, y7, hd, hB⟩ := at_KA (Kd.C_below HC.out hb.out) k hlt
      obtain ⟨ad', B', d', hAd', x0, x1, x2, x3, x4, x5, x6, x7, hd', hB'⟩ := at_KA (Kd.C_below HC'.out hb.out) k hlt
      subst hAd
      subst hAd'
      generalize L[k] = a at y0 y1 y2 y3 y4 y5 y6 y7 x0 x1 x2 x3 x4 x5 x6 x7 hd hd' hB hB'
      have CALL := Lib.hid (fun W (h1 : Kd.C KB W B a.r.data.length a.r.data) (h2 : Kd.C KB W B' a.r.data.length a.r.data) => same95 a B B' d d' W hd h1 hd' h2)
      have HB := Lib.hid hB
      have HB' := Lib.hid hB'
      have q0 := World.block_lt_of_cell? _ _ x0
      clear hB hB'
      have z0 := cell_keep (bl_all (Below.refl _ wr) (.cells (acells a (.slice B a.r.data.length d)) 106)) x0
      have z1 := cell_keep (bl_all (Below.refl _ wr) (.cells (acells a (.slice B a.r.data.length d)) 106)) x1
      have z2 := cell_keep (bl_all (Below.refl _ wr) (.cells (acells a (.slice B a.r.data.length d)) 106)) x2
      have z3 := cell_keep (bl_all (Below.refl _ wr) (.cells (acells a (.slice B a.r.data.length d)) 106)) x3
      have z4 := cell_keep (bl_all (Below.refl _ wr) (.cells (acells a (.slice B a.r.data.length d)) 106)) x4
      have z5 := cell_keep (bl_all (Below.refl _ wr) (.cells (acells a (.slice B a.r.data.length d)) 106)) x5
      have z6 := cell_keep (bl_all (Below.refl _ wr) (.cells (acells a (.slice B a.r.data.length d)) 106)) x6
      have z7 := cell_keep (bl_all (Below.refl _ wr) (.cells (acells a (.slice B a.r.data.length d)) 106)) x7
      clear x0 x1 x2 x3 x4 x5 x6 x7
      go_wp2_with (go_at_call 95; refine (CALL.out _ (Kd.C_below HB.out (bl_all (bl_all (Below.refl _ _) _) _)) (Kd.C_below HB'.out (bl_all (bl_all (Below.refl _ _) _) _))).mono ?_; rintro e w1 ⟨rfl, hb1⟩)
      exact ⟨⟨k + 1, by omega, by go_num, Lib.hid (bl_then (bl_all (bl_all hb.out _) _) hb1)⟩, by simp [intOf]; omega⟩
    · have hlt' : ¬ (k : Int) < (L.length : Int) := by omega
      go_wp2_with fail
      go_ret
      exact ⟨rfl, hb.out⟩
theorem same60 (A A' : Option Addr) (c c' : Nat) (L : List Ac) (w : World) (hl : L.length ≤ 1000) (hC : Kd.C KA w A L.length L) (hC' : Kd.C KA w A' L.length L) :
    Calls Try.prog 60 #[.slice A L.length c, .slice A' L.length c'] w fun e w' => e = .returned (.bool true) ∧ Below w.heap.size w w' := by
  have EQ := Lib.hid (equal94 A A' c c' L w hl hC hC')
  clear hC hC'
  go_enter Try.func60, Try.ntmps60
  go_wp2_with (go_at_call 94; refine EQ.out.mono ?_; rintro e w1 ⟨rfl, hb1⟩)
  go_ret
  exact ⟨rfl, hb1⟩
end Go.Proofs.Ytoobbolaoldacaa.DiceW
