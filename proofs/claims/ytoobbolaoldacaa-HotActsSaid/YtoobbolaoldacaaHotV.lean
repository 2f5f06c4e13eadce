/-
  The reference's without and Use.
-/
import Derived.Test.YtoobbolaoldacaaHotR
namespace Go.Proofs.Ytoobbolaoldacaa.HotW
open Go.RowKit Go.Proofs.Ytoobbolaoldacaa Go.Proofs.Ytoobbolaoldacaa.Hot Go.Proofs.Ytoobbolaoldacaa.HotBP Go.Proofs.Ytoobbolaoldacaa.HotP Go.Proofs.Ytoobbolaoldacaa.BitsPlain Go.Proofs.Ytoobbolaoldacaa.RowOwn Go.Proofs.Ytoobbolaoldacaa.CloneI Go.Proofs.YtoobbolaoldacaaW.PrintWords Go.Proofs.YtoobbolaoldacaaW.PrintMore
set_option linter.unusedVariables false
set_option maxHeartbeats 2000000 in
set_option maxRecDepth 100000 in
theorem without_c (g base : Nat) (m : Int) (L : List Int) (S : Nat → Prop) (x : Int) (w : World) (h : RHotAt w g base m L S) :
    Calls Try.prog 79 #[.pointer (some ⟨g, 0, none⟩), .int .i64 x] w fun e w' => ∃ v, e = .returned v ∧ Kd.R KI 3 w' w.heap.size (fun _ => True) v (L.filter (fun y => y != x)) ∧ Below w.heap.size w w' := by
  have hln := (rhot_lt h).2.2
  obtain ⟨x1, A0, c0, x0, hc0, hC, hf⟩ := rhot_cells h
  have HC := Lib.hid hC
  clear hC h
  go_enter Try.func79, Try.ntmps79
  go_wp2_with fail
  go_loopw [5, 13] (fun av iv wr => ∃ (k : Nat), k ≤ L.length ∧ iv = .int .i64 k ∧ Kd.R KI 3 wr w.heap.size (fun _ => True) av ((L.take k).filter (fun y => y != x)) ∧ Below w.heap.size w wr)
    (fun av iv _ => L.length - (intOf iv).toNat)
  case atStart => exact ⟨0, Nat.zero_le _, rfl, Kd.R_nil _ _ _ _ _, Below.refl _ _⟩
  case round =>
    obtain ⟨k, hk, rfl, hR, hB⟩ := hrel
    have HR := Lib.hid hR
    have HB := Lib.hid hB
    clear hR hB
    by_cases hlt : k < L.length
    · have hlt' : (k : Int) < (L.length : Int) := by omega
      obtain ⟨ad, rfl, hcell⟩ := at_KI (Kd.C_below HC.out HB.out) k hlt
      have hnext : (L.take (k + 1)).filter (fun y => y != x) = (L.take k).filter (fun y => y != x) ++ (if L[k] != x then [L[k]] else []) := by
        rw [List.take_add_one, List.getElem?_eq_getElem hlt, List.filter_append]
        show _ ++ List.filter _ [L[k]] = _
        congr 1
        cases hq : (L[k] != x) <;> simp [List.filter, hq]
      have hle : ((L.take k).filter (fun y => y != x)).length ≤ k := by
        have h1 := List.length_filter_le (fun y => y != x) (L.take k)
        rw [List.length_take] at h1
        omega
      have HNX := Lib.hid hnext
      clear hnext
      generalize (L.take k).filter (fun y => y != x) = P at HR HNX hle
      generalize L[k] = y at HNX hcell
      by_cases hy : y = x
      · have hyb : (y != x) = false := by simp [hy]
        have hN : (L.take (k + 1)).filter (fun y => y != x) = P := by rw [HNX.out, hyb]; simp
        have HN := Lib.hid hN
        clear hN HNX hyb
        subst hy
        go_wp2_with fail
        refine ⟨⟨k + 1, by omega, by go_num, by rw [HN.out]; exact HR.out, HB.out⟩, by simp [intOf]; omega⟩
      · have hyb : (y != x) = true := by simp [hy]
        have hN : (L.take (k + 1)).filter (fun y => y != x) = P ++ [y] := by rw [HNX.out, hyb]; simp
        have HN := Lib.hid hN
        have hPl : P.length < 17592186044416 := by omega
        have HPL := Lib.hid hPl
        clear hN HNX hyb hPl
        go_wp2_with (first
          | ((with_reducible refine gate_builtin (b := .append) (xs := #[.tmp 20, .tmp 22]) rfl ?_); at_builtin; refine Kd.R_append KI (w0 := w) w.heap.size rfl (.tmp 20) (.tmp 22) 54 3 (.int .i64 0) 8 rfl Try.underlying54 info3 rfl (by decide) (by omega) u5 P y [.int .i64 y] (fun _ => True) (fun _ => False) rfl rfl ?aP (fun _ hk => hk.elim) ?aF ?aO ?aB ?aS ?aL ?_; (case aP => exact rfl); (case aB => exact (by repeat (first | (with_reducible first | exact HB.out | apply below_alloc | apply pw_below_drewN | apply below_drew1) | exact HB.out))); (case aF => exact (fun _ _ => trivial)); (case aO => exact (by (with_reducible repeat (first | apply Kd.R_alloc | apply Kd.R_drewN | apply Kd.R_drew)); exact HR.out)); (case aS => exact (below_size (by repeat (first | (with_reducible first | exact HB.out | apply below_alloc | apply pw_below_drewN | apply below_drew1) | exact HB.out)))); (case aL => have := HPL.out; omega); intro v109 w6 ho hb hg hat; have HO6 := Lib.hid ho; have HB6 := Lib.hid hb; clear ho hb hg hat))
        refine ⟨⟨k + 1, by omega, by go_num, by rw [HN.out]; exact HO6.out, HB6.out⟩, by simp [intOf]; omega⟩
    · have hlt' : ¬ (k : Int) < (L.length : Int) := by omega
      have hfin : (L.take k).filter (fun y => y != x) = L.filter (fun y => y != x) := by rw [List.take_of_length_le (by omega)]
      have hR := HR.out
      rw [hfin] at hR
      have HR2 := Lib.hid hR
      clear hR hfin HR
      go_wp2_with fail
      go_ret
      exact ⟨_, rfl, HR2.out, HB.out⟩
end Go.Proofs.Ytoobbolaoldacaa.HotW
