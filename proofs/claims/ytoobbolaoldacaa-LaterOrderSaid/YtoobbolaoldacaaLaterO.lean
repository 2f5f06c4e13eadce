/-
  The walk of LaterOrder.
-/
import Derived.Test.YtoobbolaoldacaaLaterL
namespace Go.Proofs.Ytoobbolaoldacaa.LaterW
open Go.RowKit Go.Proofs.Ytoobbolaoldacaa Go.Proofs.Ytoobbolaoldacaa.Later Go.Proofs.Ytoobbolaoldacaa.LaterSP Go.Proofs.Ytoobbolaoldacaa.LaterP Go.Proofs.Ytoobbolaoldacaa.RowOwn Go.Proofs.Ytoobbolaoldacaa.CloneB Go.Proofs.YtoobbolaoldacaaW.PrintWords Go.Proofs.YtoobbolaoldacaaW.PrintLast Go.Proofs.YtoobbolaoldacaaW.PrintMore
set_option linter.unusedVariables false
set_option maxHeartbeats 4000000 in
set_option maxRecDepth 100000 in
theorem order_walk (A : Option Addr) (cap : Nat) (l : List S31) (w : World) (hr : Kd.C k31 w A l.length l) (hB : ∀ a ∈ l, a.f3.length ≤ 140737488355328) :
    Calls Try.prog 3 #[.slice A l.length cap] w fun e w' => e = .returned (.bool true) ∧ Below w.heap.size w w' := by
  have LV := Lib.hid (lives25)
  by_cases h1 : 60 < l.length
  · have h1' : (60 : Int) < (l.length : Int) := by omega
    go_enter Try.func3, Try.ntmps3
    go_wp2_with fail
    refine (LV.out _).mono ?_
    rintro e w' ⟨rfl, hb⟩
    go_wp2_with fail
    go_ret
    exact ⟨rfl, hb⟩
  have h1' : ¬ (60 : Int) < (l.length : Int) := by omega
  have N := Lib.hid (New_c w)
  have HR := Lib.hid hr
  have HBN := Lib.hid hB
  have hu := Try.underlying31
  have hu34 := Try.underlying34
  clear hr hB
  generalize hg : w.heap.size = g at N
  go_enter Try.func3, Try.ntmps3
  go_wp2_with fail
  refine N.out.mono ?_
  rintro e w1 ⟨rfl, hw1⟩
  have hn1 : QAt w1 g g [] (fun k => k = g) := new_q w1 g (by rw [← hw1, ← hg]; exact new_at _ _)
  have hqs : QS w g [] w1 := ⟨_, hn1, by rw [← hw1, ← hg]; exact bl_all (Below.refl _ w) _⟩
  have HQ1 := Lib.hid hqs
  clear hw1 N hn1 hqs
  go_wp2_with fail
  go_loopw [18] (fun i wr => ∃ (k : Nat), k ≤ l.length ∧ i = .int .i64 k ∧ QS w g ((l.take k).mapIdx wrOf) wr) (fun i _ => l.length - (intOf i).toNat)
  case atStart => exact ⟨0, Nat.zero_le _, rfl, HQ1.out⟩
  case round =>
    obtain ⟨k, hk, rfl, hQ⟩ := hrel
    have HQ := Lib.hid hQ
    have hql := qs_lt hQ
    clear hQ HQ1
    by_cases hlt : k < l.length
    · have hlt' : (k : Int) < (l.length : Int) := by omega
      have hbw : Below w.heap.size w wr := by rw [hg]; exact qs_bel HQ.out
      obtain ⟨ad, B, cb, O, co, rfl, z0, z1, z2, z3, z4, z5, zC, _, _⟩ := at_act (Kd.C_below HR.out hbw) k hlt
      have HNX := Lib.hid (idx_next l k hlt)
      have hlen : ((l.take k).mapIdx wrOf).length = k := by simp; omega
      have hbl := HBN.out l[k] (List.getElem_mem hlt)
      have PU := Lib.hid (fun (o : Obj) => qs_push ⟨(k : Int), l[k].f2.f0, l[k].f2.f1, l[k].f3⟩ B cb (qs_below HQ.out (bl_all (Below.refl _ wr) o)) (by omega) hbl (Kd.C_below zC (bl_all (Below.refl _ wr) o)))
      have HWX : Hid (wrOf k l[k] = ⟨(k : Int), l[k].f2.f0, l[k].f2.f1, l[k].f3⟩) := Lib.hid rfl
      clear hbl zC hbw
      generalize l[k].f0 = y0 at z0
      generalize l[k].f1 = y1 at z1
      generalize l[k].f2.f0 = y2 at z2 PU HWX
      generalize l[k].f2.f1 = y3 at z3 PU HWX
      generalize l[k].f3 = y4 at z4 PU HWX
      generalize l[k].f4 = y5 at z5
      go_wp2_with fail
      refine (PU.out _).mono ?_
      rintro e w2 ⟨rfl, hq2⟩
      have HQ2 := Lib.hid hq2
      clear hq2 PU
      go_wp2_with fail
      exact ⟨⟨k + 1, by omega, by go_num, by rw [HNX.out, HWX.out]; exact HQ2.out⟩, by simp [intOf]; omega⟩
    · have hlt' : ¬ (k : Int) < (l.length : Int) := by omega
      have hfull : (l.take k).mapIdx wrOf = l.mapIdx wrOf := by rw [List.take_of_length_le (by omega)]
      rw [hfull] at HQ
      have hll : (l.mapIdx wrOf).length = l.length := by simp
      clear hfull
      go_wp2_with fail
      clear hlt hk hlt'
      go_loopw [33] (fun i u => ∃ (j : Nat), j ≤ l.length ∧ i = .int .i64 j ∧ QS w g ((l.mapIdx wrOf).drop j) u) (fun i _ => l.length - (intOf i).toNat)
      case atStart => exact ⟨0, Nat.zero_le _, rfl, HQ.out⟩
      case round =>
        obtain ⟨j, hj, rfl, hQ2⟩ := hrel
        have HQ2 := Lib.hid hQ2
        have hql2 := (qs_lt hQ2).1
        clear hQ2 HQ
        by_cases hlt : j < l.length
        · have hltj : (j : Int) < (l.length : Int) := by omega
          have hbw : Below w.heap.size w wr := by rw [hg]; exact qs_bel HQ2.out
          obtain ⟨ad, B, cb, O, co, rfl, z0, z1, z2, z3, z4, z5, zC, _, _⟩ := at_act (Kd.C_below HR.out hbw) j hlt
          have hd : (l.mapIdx wrOf).drop j = wrOf j l[j] :: (l.mapIdx wrOf).drop (j + 1) := by
            rw [List.drop_eq_getElem_cons (by omega)]
            simp
          rw [hd] at HQ2
          clear zC hbw hd z0 z1 z4 z5
          generalize hM : (l.mapIdx wrOf).drop (j + 1) = M at HQ2
          have HM := Lib.hid hM
          clear hM
          generalize l[j].f2.f0 = y2 at z2
          generalize l[j].f2.f1 = y3 at z3
          have hid : (wrOf j l[j]).id = (j : Int) := rfl
          generalize wrOf j l[j] = x at HQ2 hid
          obtain ⟨p1, p2, p3⟩ := pick_cons [⟨⟨y2, y3⟩, false⟩] x M (go_unsent y2 y3 x)
          have NX := Lib.hid (qs_next [⟨⟨y2, y3⟩, false⟩] (some ⟨wr.heap.size, 0, none⟩) 1 (qs_below HQ2.out (bl_all (Below.refl _ wr) (.cells #[.int .i64 y2, .int .i64 y3, .bool false] 38))) (own_C wr y2 y3 false) (Nat.le_refl _))
          rw [p1, p2, p3, hid] at NX
          clear p1 p2 p3
          go_wp2_with fail
          refine NX.out.mono ?_
          rintro e w2 ⟨⟨v, rfl, a9, n9, c9, rfl⟩, hq2⟩
          have HQ3 := Lib.hid hq2
          have hq3l := (qs_lt hq2).1
          clear hq2 NX
          go_wp2_with fail
          exact ⟨⟨j + 1, by omega, by go_num, by rw [HM.out]; exact qs_below HQ3.out (bl_all (Below.refl _ _) _)⟩, by simp [intOf]; omega⟩
        · have hltj : ¬ (j : Int) < (l.length : Int) := by omega
          have hnil : (l.mapIdx wrOf).drop j = [] := List.drop_eq_nil_of_le (by omega)
          rw [hnil] at HQ2
          obtain ⟨p3, p2, p1⟩ := next_nil []
          have NX := Lib.hid (qs_next [] none 0 HQ2.out (nil_C _ _) (Nat.le_refl _))
          rw [p1, p2, p3] at NX
          clear p1 p2 p3 hnil
          go_wp2_with fail
          refine NX.out.mono ?_
          rintro e w2 ⟨⟨v, rfl, a9, n9, c9, rfl⟩, hq2⟩
          have HQ3 := Lib.hid hq2
          have hq3l := (qs_lt hq2).1
          have LN := Lib.hid (fun o => qs_len (qs_below HQ3.out (bl_all (Below.refl _ _) o)))
          clear hq2 NX
          go_wp2_with fail
          refine (LN.out _).mono ?_
          rintro e w3 ⟨rfl, rfl⟩
          go_wp2_with fail
          refine (LV.out _).mono ?_
          rintro e w4 ⟨rfl, hb4⟩
          go_wp2_with fail
          go_ret
          exact ⟨rfl, bl_to (bl_to (qs_bel HQ3.out) (bl_all (Below.refl _ _) _) (by omega)) hb4 (by simp; omega)⟩
end Go.Proofs.Ytoobbolaoldacaa.LaterW
