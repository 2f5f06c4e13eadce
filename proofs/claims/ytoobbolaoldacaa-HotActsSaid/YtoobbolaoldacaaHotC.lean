/-
  The contracts of package hot's methods but Use.
-/
import Derived.Test.YtoobbolaoldacaaHotS
import Derived.Deep.RegionWith
import Derived.Deep.RegionLaw
namespace Go.Proofs.Ytoobbolaoldacaa.HotW
open Go.RowKit Go.Proofs.Ytoobbolaoldacaa Go.Proofs.Ytoobbolaoldacaa.Hot Go.Proofs.Ytoobbolaoldacaa.HotBP Go.Proofs.Ytoobbolaoldacaa.BitsPlain Go.Proofs.Ytoobbolaoldacaa.RowOwn Go.Proofs.Ytoobbolaoldacaa.CloneI Go.Proofs.YtoobbolaoldacaaW.PrintWords Go.Proofs.YtoobbolaoldacaaW.PrintMore
set_option linter.unusedVariables false
theorem info3 : (Try.prog.info? 3).map (fun i => (i.zero, i.size, i.bytes)) = some (some (.int .i64 0), 1, 8) := by kernel_rfl
def idxN (p : Int → Bool) (l : List Int) : Int := match l.findIdx? p with | none => -1 | some i => (i : Int)
theorem idx_some {p : Int → Bool} {l : List Int} {k : Nat} (hk : k < l.length) (h : p l[k] = true) (hb : ∀ j, ∀ hj : j < l.length, j < k → p l[j] = false) : idxN p l = (k : Int) ∧ l.findIdx? p = some k := by
  have h1 : l.findIdx? p = some k := List.findIdx?_eq_some_iff_getElem.2 ⟨hk, h, fun j hj => by simp [hb j (by omega) hj]⟩
  exact ⟨by unfold idxN; rw [h1], h1⟩
theorem idx_none {p : Int → Bool} {l : List Int} (hb : ∀ j, ∀ hj : j < l.length, p l[j] = false) : idxN p l = -1 ∧ l.findIdx? p = none := by
  have h1 : l.findIdx? p = none := List.findIdx?_eq_none_iff.2 (fun x hx => by
    obtain ⟨j, hj, rfl⟩ := List.mem_iff_getElem.1 hx
    exact hb j hj)
  exact ⟨by unfold idxN; rw [h1], h1⟩
theorem at_KI {w : World} {A : Option Addr} {n : Nat} {xs : List Int} (h : Kd.C KI w A n xs) (i : Nat) (hi : i < xs.length) : ∃ ad, A = some ad ∧ w.cell? (ad.add i) = some (.int .i64 xs[i]) := by
  have hn : xs.length = n := h.1
  obtain ⟨ad, c, hA, hcl, hK, hcell⟩ := Kd.C_get h (0 : Int) (i : Int) (by omega) (by omega)
  rw [Int.toNat_natCast] at hK hcell
  rw [List.getD_eq_getElem?_getD, List.getElem?_eq_getElem hi] at hK
  have hK' : c = [Value.int .i64 xs[i]] := hK
  subst hK'
  have := hcell 0 _ rfl
  exact ⟨ad, hA, by simpa [Kd.int, Kd.scalar] using this⟩
theorem index67 (g1 g2 : Nat) (p : Int → Bool) (A : Option Addr) (c : Nat) (l : List Int) (w : World) (hC : Kd.C KI w A l.length l) (hl : l.length ≤ 100000)
    (hp : ∀ x n, Calls Try.prog 67 #[.int .i64 x, .pointer (some ⟨g1, 0, none⟩), .pointer (some ⟨g2, 0, none⟩)] (w.drewN n) fun e w' => e = .returned (.bool (p x)) ∧ ∃ k, w' = w.drewN k) :
    Calls Try.prog 100 #[.slice A l.length c, .func (.func 67) #[] #[.pointer (some ⟨g1, 0, none⟩), .pointer (some ⟨g2, 0, none⟩)]] w fun e w' => e = .returned (.int .i64 (idxN p l)) ∧ Drawn0 w w' := by
  have HC := Lib.hid hC
  have HP := Lib.hid hp
  clear hC hp
  go_enter Try.func100, Try.ntmps100
  go_wp2_with fail
  go_loopw [8] (fun i wr => ∃ (k n : Nat), k ≤ l.length ∧ i = .int .i64 k ∧ wr = w.drewN n ∧ ∀ j, ∀ hj : j < l.length, j < k → p l[j] = false) (fun i _ => l.length - (intOf i).toNat)
  case atStart => exact ⟨0, 0, Nat.zero_le _, rfl, rfl, fun j hj hk => by omega⟩
  case round =>
    obtain ⟨k, n, hk, rfl, rfl, hb⟩ := hrel
    have HB := Lib.hid hb
    clear hb
    by_cases hlt : k < l.length
    · have hlt' : (k : Int) < (l.length : Int) := by omega
      obtain ⟨ad, rfl, hcell⟩ := at_KI HC.out k hlt
      have CALL := HP.out l[k] n
      have HH : ∀ b, p l[k] = b → Hid (p l[k] = b) := fun _ h => Lib.hid h
      obtain ⟨b, hpb⟩ : ∃ b, p l[k] = b := ⟨_, rfl⟩
      have HPB := Lib.hid hpb
      rw [hpb] at CALL
      clear hpb HH
      have HCALL := Lib.hid CALL
      clear CALL
      cases b with
      | true =>
        go_wp2_with fail
        refine HCALL.out.mono ?_
        rintro e w' ⟨rfl, n2, rfl⟩
        go_wp2_with fail
        go_ret
        rw [(idx_some hlt HPB.out HB.out).1]
        exact ⟨rfl, n2, rfl⟩
      | false =>
        go_wp2_with fail
        refine HCALL.out.mono ?_
        rintro e w' ⟨rfl, n2, rfl⟩
        go_wp2_with fail
        go_roundw
        case rel => exact ⟨k + 1, n2, by omega, by go_num, rfl, fun j hj hjk => by
          by_cases he : j = k
          · subst he; exact HPB.out
          · exact HB.out j hj (by omega)⟩
        case measure => simp [intOf]; omega
    · have hlt' : ¬ (k : Int) < (l.length : Int) := by omega
      go_wp2_with fail
      go_ret
      rw [(idx_none (fun j hj => HB.out j hj (by omega))).1]
      exact ⟨rfl, n, rfl⟩
theorem index70 (g1 : Nat) (p : Int → Bool) (A : Option Addr) (c : Nat) (l : List Int) (w : World) (hC : Kd.C KI w A l.length l) (hl : l.length ≤ 100000)
    (hp : ∀ x n, Calls Try.prog 70 #[.int .i64 x, .pointer (some ⟨g1, 0, none⟩)] (w.drewN n) fun e w' => e = .returned (.bool (p x)) ∧ ∃ k, w' = w.drewN k) :
    Calls Try.prog 100 #[.slice A l.length c, .func (.func 70) #[] #[.pointer (some ⟨g1, 0, none⟩)]] w fun e w' => e = .returned (.int .i64 (idxN p l)) ∧ Drawn0 w w' := by
  have HC := Lib.hid hC
  have HP := Lib.hid hp
  clear hC hp
  go_enter Try.func100, Try.ntmps100
  go_wp2_with fail
  go_loopw [8] (fun i wr => ∃ (k n : Nat), k ≤ l.length ∧ i = .int .i64 k ∧ wr = w.drewN n ∧ ∀ j, ∀ hj : j < l.length, j < k → p l[j] = false) (fun i _ => l.length - (intOf i).toNat)
  case atStart => exact ⟨0, 0, Nat.zero_le _, rfl, rfl, fun j hj hk => by omega⟩
  case round =>
    obtain ⟨k, n, hk, rfl, rfl, hb⟩ := hrel
    have HB := Lib.hid hb
    clear hb
    by_cases hlt : k < l.length
    · have hlt' : (k : Int) < (l.length : Int) := by omega
      obtain ⟨ad, rfl, hcell⟩ := at_KI HC.out k hlt
      have CALL := HP.out l[k] n
      have HH : ∀ b, p l[k] = b → Hid (p l[k] = b) := fun _ h => Lib.hid h
      obtain ⟨b, hpb⟩ : ∃ b, p l[k] = b := ⟨_, rfl⟩
      have HPB := Lib.hid hpb
      rw [hpb] at CALL
      clear hpb HH
      have HCALL := Lib.hid CALL
      clear CALL
      cases b with
      | true =>
        go_wp2_with fail
        refine HCALL.out.mono ?_
        rintro e w' ⟨rfl, n2, rfl⟩
        go_wp2_with fail
        go_ret
        rw [(idx_some hlt HPB.out HB.out).1]
        exact ⟨rfl, n2, rfl⟩
      | false =>
        go_wp2_with fail
        refine HCALL.out.mono ?_
        rintro e w' ⟨rfl, n2, rfl⟩
        go_wp2_with fail
        go_roundw
        case rel => exact ⟨k + 1, n2, by omega, by go_num, rfl, fun j hj hjk => by
          by_cases he : j = k
          · subst he; exact HPB.out
          · exact HB.out j hj (by omega)⟩
        case measure => simp [intOf]; omega
    · have hlt' : ¬ (k : Int) < (l.length : Int) := by omega
      go_wp2_with fail
      go_ret
      rw [(idx_none (fun j hj => HB.out j hj (by omega))).1]
      exact ⟨rfl, n, rfl⟩
theorem may_c (g1 g2 : Nat) (need busy : Nat) (x : Int) (w : World) (h1 : w.cell? ⟨g1, 0, none⟩ = some (.int .u64 (need : Int))) (h2 : w.cell? ⟨g2, 0, none⟩ = some (.int .u64 (busy : Int))) (hn : need < 2 ^ 64) (hb : busy < 2 ^ 64) :
    Calls Try.prog 67 #[.int .i64 x, .pointer (some ⟨g1, 0, none⟩), .pointer (some ⟨g2, 0, none⟩)] w fun e w' => e = .returned (.bool (!hasN (need ||| busy) x)) ∧ Drawn0 w w' := by
  have e1 : Go.bits .or .u64 (need : Int) (busy : Int) = ((need ||| busy : Nat) : Int) := u64_or_nat _ _ hn hb
  have HS := Lib.hid (fun u => bits_Has.calls _ _ _ u (has_p (need ||| busy) x (Nat.or_lt_two_pow hn hb)))
  generalize need ||| busy = q at e1 HS ⊢
  generalize hasN q x = b at HS ⊢
  clear hn hb
  go_enter Try.func67, Try.ntmps67
  go_wp2_with fail
  refine (HS.out _).mono ?_
  rintro e w' ⟨rfl, n, rfl⟩
  go_wp2_with fail
  go_ret
  exact ⟨rfl, n, rfl⟩
theorem eq_c (g1 : Nat) (y x : Int) (w : World) (h1 : w.cell? ⟨g1, 0, none⟩ = some (.int .i64 y)) :
    Calls Try.prog 70 #[.int .i64 x, .pointer (some ⟨g1, 0, none⟩)] w fun e w' => e = .returned (.bool (x == y)) ∧ w = w' := by
  go_enter Try.func70, Try.ntmps70
  go_wp2
  go_ret
  exact ⟨rfl, rfl⟩
set_option maxHeartbeats 1000000 in
set_option maxRecDepth 100000 in
theorem drop_c (g base : Nat) (m : Int) (L : List Int) (S : Nat → Prop) (j : Nat) (w : World) (h : HotAt w g base m L S) (hj : j < L.length) :
    Calls Try.prog 101 #[.pointer (some ⟨g, 0, none⟩), .int .i64 (j : Int)] w fun e w' => e = .returned (.tuple #[]) ∧ ∃ S', HotAt w' g base m (L.eraseIdx j) S' ∧ (∀ k, S' k → S k ∨ w.heap.size ≤ k) ∧ OnlyS S w w' := by
  obtain ⟨v, ok, hh, hr, hS, hb, hd, hl, hn⟩ := h
  obtain ⟨Av, cv, he, hc, hC⟩ := row_reads hr
  obtain ⟨gr, rfl⟩ := row_head_g (he ▸ hr) (by omega)
  have k1 : w.cell? ⟨g, 1, none⟩ = some (.slice (some ⟨gr, 0, none⟩) L.length cv) := by rw [← he]; exact blk_cell hh 1
  have kf : w.frozen? ⟨g, 1, none⟩ = false := blk_frozen hh 1
  have HH := Lib.hid hh
  have HR := Lib.hid (he ▸ hr : Row KI 3 w base ok (.slice (some ⟨gr, 0, none⟩) L.length cv) L)
  have HD := Lib.hid hd
  have HL := Lib.hid hl
  have hgl := lt_at hh
  clear hh hr hd hl hC he
  have q1 : (j : Int) ≤ (cv : Int) := by omega
  have q2 : (j : Int) + 1 ≤ (L.length : Int) := by omega
  have q3 : (0 : Int) ≤ (j : Int) + 1 := by omega
  have q4 : (0 : Int) ≤ (j : Int) := by omega
  have hwr : IntKind.i64.wrap ((j : Int) + 1) = (j : Int) + 1 := by have h := IntKind.wrap_i64 ((j : Int) + 1); rw [h]; omega
  have hnt : ((j : Int) + 1).toNat = j + 1 := by omega
  have HM : Hid (Made KI w base (fun k => ((ok k ∨ w.heap.size ≤ k)) ∧ k ≠ gr) (if cv = j + 1 then some ⟨gr, 0, none⟩ else some ⟨gr, j + 1, none⟩) (L.length - (j + 1)) (L.drop (j + 1))) := by
    obtain ⟨A', c', he, hm⟩ := row_made HR.out
    injection he with h1 h2 h3
    subst h1
    subst h3
    have hm2 := made_drop hm (i := j + 1) (c := cv) (by omega) hc
    refine Lib.hid ?_
    have hm3 := made_mono hm2 (fun k (hk : ok k ∧ some k ≠ _) => (⟨Or.inl hk.1, fun he => hk.2 (by subst he; rfl)⟩ : (ok k ∨ w.heap.size ≤ k) ∧ k ≠ gr))
    simpa [Kd.int, Kd.scalar, Addr.add] using hm3
  go_enter Try.func101, Try.ntmps101
  go_wp2_with (first
    | ((with_reducible refine gate_builtin (b := .append) (xs := #[.tmp 13, .tmp 20]) rfl ?_); at_builtin; refine cut_append_list (d := KI) (base := base) (w := w) (xs := L) (ys := L.drop (j + 1)) (g := gr) (c := cv) (i := j) (m := L.length - (j + 1)) (c2 := cv - (j + 1)) (A := if cv = j + 1 then some ⟨gr, 0, none⟩ else some ⟨gr, j + 1, none⟩) (ok := fun k => ok k ∨ w.heap.size ≤ k) rfl (.tmp 13) (.tmp 20) 54 3 (.int .i64 0) 8 rfl Try.underlying54 info3 rfl (by decide) (by omega) ?es ?ex ?aO (by omega) HM.out (fun k hk => .inr hk) (by omega) (by omega) ?_; (case es => first | rfl | (simp [Act.eval, Act.put]; done)); (case ex => first | rfl | (simp [Act.eval, Act.put]; done)); (case aO => exact row_mono HR.out (fun k hk => .inl hk)); intro v5 w5 hrow5 hgr5; obtain ⟨A5, c5, he5, _, _⟩ := row_reads hrow5; generalize (L.take j ++ L.drop (j + 1)).length = n5 at he5; subst he5; have hh5 : w5.heap[g]? = some (.cells #[.int .i64 m, v] 88 (0, 0)) := keep_at_grown HH.out hgr5 (by simp); have hq5 : ∃ z, w5.cell? ⟨g, 1, none⟩ = some z := ⟨_, blk_cell hh5 1⟩; obtain ⟨z5, hq5⟩ := hq5; have hf5 : w5.frozen? ⟨g, 1, none⟩ = false := blk_frozen hh5 1; have HROW5 := Lib.hid hrow5; have HG5 := Lib.hid hgr5; clear hrow5 hgr5 hh5))
  all_goals go_end0
  all_goals have hfin := HROW5.out
  all_goals rw [← List.eraseIdx_eq_take_drop_succ] at hfin
  all_goals exact ⟨rfl, hot_put HH.out hS hb HD.out HL.out (Below.refl _ _) HG5.out (fun k hk => by cases hk) (fun k hk => hk) hfin (by have := List.length_eraseIdx_le L j; omega)⟩
theorem leave67 (g1 g2 : Nat) (p : Int → Bool) (g base : Nat) (m : Int) (L : List Int) (S : Nat → Prop) (w : World) (h : HotAt w g base m L S)
    (hp : ∀ x n, Calls Try.prog 67 #[.int .i64 x, .pointer (some ⟨g1, 0, none⟩), .pointer (some ⟨g2, 0, none⟩)] (w.drewN n) fun e w' => e = .returned (.bool (p x)) ∧ ∃ k, w' = w.drewN k) :
    Calls Try.prog 69 #[.pointer (some ⟨g, 0, none⟩), .func (.func 67) #[] #[.pointer (some ⟨g1, 0, none⟩), .pointer (some ⟨g2, 0, none⟩)]] w fun e w' => e = .returned (.bool (L.any p)) ∧ ∃ S', HotAt w' g base m (L.eraseP p) S' ∧ (∀ k, S' k → S k ∨ w.heap.size ≤ k) ∧ OnlyS S w w' := by
  obtain ⟨c0, A, c, c1, hc, hC, _⟩ := hot_cells h
  have hn := (hot_lt h).2.2
  have IX := Lib.hid (index67 g1 g2 p A c L w hC hn hp)
  have HT := Lib.hid h
  cases hf : L.findIdx? p with
  | none =>
    have hi : idxN p L = -1 := by unfold idxN; rw [hf]
    have ha : L.any p = false := by
      rw [List.any_eq_false]
      intro x hx
      simp [List.findIdx?_eq_none_iff.1 hf x hx]
    have he : L.eraseP p = L := List.eraseP_of_forall_not (fun x hx => by simp [List.findIdx?_eq_none_iff.1 hf x hx])
    rw [hi] at IX
    rw [ha, he]
    clear hf hi ha he hp hC h
    go_enter Try.func69, Try.ntmps69
    go_wp2_with fail
    refine IX.out.mono ?_
    rintro e w' ⟨rfl, n, rfl⟩
    go_wp2_with fail
    go_ret
    exact ⟨rfl, S, hot_below HT.out (bl_drew (Below.refl _ _) n), fun k hk => .inl hk, (OnlyS.refl _ _).drewN n⟩
  | some k =>
    obtain ⟨hk, hpk, hbk⟩ := List.findIdx?_eq_some_iff_getElem.1 hf
    have hi : idxN p L = (k : Int) := by unfold idxN; rw [hf]
    have ha : L.any p = true := List.any_eq_true.2 ⟨L[k], List.getElem_mem hk, hpk⟩
    have he : L.eraseP p = L.eraseIdx k := by rw [List.eraseP_eq_eraseIdx, hf]
    rw [hi] at IX
    rw [ha, he]
    have DR := Lib.hid (fun u (hu : HotAt u g base m L S) => drop_c g base m L S k u hu hk)
    clear hf hi ha he hp hC h hpk hbk
    have hk0 : ¬ (k : Int) < 0 := by omega
    go_enter Try.func69, Try.ntmps69
    go_wp2_with fail
    refine IX.out.mono ?_
    rintro e w' ⟨rfl, n, rfl⟩
    go_wp2_with fail
    refine (DR.out _ (hot_below HT.out (bl_drew (Below.refl _ _) n))).mono ?_
    rintro e w2 ⟨rfl, S', hT', hS', ho'⟩
    go_wp2_with fail
    go_ret
    exact ⟨rfl, S', hT', hS', ((OnlyS.refl S w).drewN n).trans ho' (fun k hk => .inl hk)⟩
theorem leave70 (g1 : Nat) (p : Int → Bool) (g base : Nat) (m : Int) (L : List Int) (S : Nat → Prop) (w : World) (h : HotAt w g base m L S)
    (hp : ∀ x n, Calls Try.prog 70 #[.int .i64 x, .pointer (some ⟨g1, 0, none⟩)] (w.drewN n) fun e w' => e = .returned (.bool (p x)) ∧ ∃ k, w' = w.drewN k) :
    Calls Try.prog 69 #[.pointer (some ⟨g, 0, none⟩), .func (.func 70) #[] #[.pointer (some ⟨g1, 0, none⟩)]] w fun e w' => e = .returned (.bool (L.any p)) ∧ ∃ S', HotAt w' g base m (L.eraseP p) S' ∧ (∀ k, S' k → S k ∨ w.heap.size ≤ k) ∧ OnlyS S w w' := by
  obtain ⟨c0, A, c, c1, hc, hC, _⟩ := hot_cells h
  have hn := (hot_lt h).2.2
  have IX := Lib.hid (index70 g1 p A c L w hC hn hp)
  have HT := Lib.hid h
  cases hf : L.findIdx? p with
  | none =>
    have hi : idxN p L = -1 := by unfold idxN; rw [hf]
    have ha : L.any p = false := by
      rw [List.any_eq_false]
      intro x hx
      simp [List.findIdx?_eq_none_iff.1 hf x hx]
    have he : L.eraseP p = L := List.eraseP_of_forall_not (fun x hx => by simp [List.findIdx?_eq_none_iff.1 hf x hx])
    rw [hi] at IX
    rw [ha, he]
    clear hf hi ha he hp hC h
    go_enter Try.func69, Try.ntmps69
    go_wp2_with fail
    refine IX.out.mono ?_
    rintro e w' ⟨rfl, n, rfl⟩
    go_wp2_with fail
    go_ret
    exact ⟨rfl, S, hot_below HT.out (bl_drew (Below.refl _ _) n), fun k hk => .inl hk, (OnlyS.refl _ _).drewN n⟩
  | some k =>
    obtain ⟨hk, hpk, hbk⟩ := List.findIdx?_eq_some_iff_getElem.1 hf
    have hi : idxN p L = (k : Int) := by unfold idxN; rw [hf]
    have ha : L.any p = true := List.any_eq_true.2 ⟨L[k], List.getElem_mem hk, hpk⟩
    have he : L.eraseP p = L.eraseIdx k := by rw [List.eraseP_eq_eraseIdx, hf]
    rw [hi] at IX
    rw [ha, he]
    have DR := Lib.hid (fun u (hu : HotAt u g base m L S) => drop_c g base m L S k u hu hk)
    clear hf hi ha he hp hC h hpk hbk
    have hk0 : ¬ (k : Int) < 0 := by omega
    go_enter Try.func69, Try.ntmps69
    go_wp2_with fail
    refine IX.out.mono ?_
    rintro e w' ⟨rfl, n, rfl⟩
    go_wp2_with fail
    refine (DR.out _ (hot_below HT.out (bl_drew (Below.refl _ _) n))).mono ?_
    rintro e w2 ⟨rfl, S', hT', hS', ho'⟩
    go_wp2_with fail
    go_ret
    exact ⟨rfl, S', hT', hS', ((OnlyS.refl S w).drewN n).trans ho' (fun k hk => .inl hk)⟩
theorem made_R {w w1 : World} {base : Nat} {v : Value} {L : List Int} (h : Kd.R KI 3 w1 w.heap.size (fun _ => True) v L) (hb : base ≤ w.heap.size) : Row KI 3 w1 base (fun k => w.heap.size ≤ k) v L :=
  .inl (Kd.R_lower (Kd.R_mono (Kd.R_bound h) (fun k hk => hk.2.1)) hb)
theorem list_len (x : Nat) : (intsN (list x)).length ≤ 64 := by
  have := listTo_length x 64
  rw [listTo_all] at this
  unfold intsN
  rw [List.length_map]
  exact this
theorem Load_c (g base : Nat) (m : Int) (L : List Int) (S : Nat → Prop) (x : Nat) (w : World) (hm : 0 < m) (hx : x < 2 ^ 64) (h : HotAt w g base m L S) :
    Calls Try.prog 20 #[.pointer (some ⟨g, 0, none⟩), .int .u64 (x : Int)] w fun e w' => e = .returned (.tuple #[]) ∧ ∃ S', HotAt w' g base m (intsN (list x)) S' ∧ (∀ k, S' k → S k ∨ w.heap.size ≤ k) ∧ OnlyS S w w' := by
  obtain ⟨c0, _⟩ := hot_cells h
  have I := Lib.hid (is_yes g m w hm c0)
  have D := Lib.hid (bits_List.calls _ _ w (list_p x hx))
  obtain ⟨v, ok, hh, hr, hS, hb, hd, hl, hn⟩ := h
  have HH := Lib.hid hh
  have HD := Lib.hid hd
  have HL := Lib.hid hl
  have hgl := lt_at hh
  have hlen := list_len x
  clear hh hr hd hl hx c0
  generalize intsN (list x) = M at D hlen ⊢
  go_enter Try.func20, Try.ntmps20
  go_wp2_with fail
  refine I.out.mono ?_
  rintro e w' ⟨rfl, rfl⟩
  go_wp2_with fail
  refine D.out.mono ?_
  rintro e w1 ⟨v1, rfl, hr1, hb1⟩
  obtain ⟨A1, c1, rfl⟩ := Kd.R_slice hr1
  have hh1 := keep_at_all HH.out hb1
  obtain ⟨z, hz⟩ : ∃ z, w1.cell? ⟨g, 1, none⟩ = some z := ⟨_, blk_cell hh1 1⟩
  have hf : w1.frozen? ⟨g, 1, none⟩ = false := blk_frozen hh1 1
  have HR1 := Lib.hid hr1
  have HB1 := Lib.hid hb1
  clear hr1 hb1 hh1
  go_wp2_with fail
  go_end0
  exact ⟨rfl, hot_put HH.out hS hb HD.out HL.out HB1.out (World.grownBy.refl w1 none) (fun k hk => by cases hk) (fun k hk => .inr hk) (made_R HR1.out (by omega)) (by omega)⟩
theorem Order_c (g base : Nat) (m : Int) (L : List Int) (S : Nat → Prop) (w : World) (hm : 0 < m) (h : HotAt w g base m L S) :
    Calls Try.prog 39 #[.pointer (some ⟨g, 0, none⟩)] w fun e w' => ∃ v, e = .returned v ∧ Kd.R KI 3 w' w.heap.size (fun _ => True) v L ∧ Below w.heap.size w w' := by
  obtain ⟨c0, A, c, c1, hc, hC, _⟩ := hot_cells h
  have hn := (hot_lt h).2.2
  have I := Lib.hid (is_yes g m w hm c0)
  have CL := Lib.hid (clone_c A c L w hC (by omega))
  clear hC h c0
  go_enter Try.func39, Try.ntmps39
  go_wp2_with fail
  refine I.out.mono ?_
  rintro e w' ⟨rfl, rfl⟩
  go_wp2_with fail
  refine CL.out.mono ?_
  rintro e w1 ⟨v, rfl, hr, hb⟩
  go_wp2_with fail
  go_ret
  exact ⟨_, rfl, hr, hb⟩
end Go.Proofs.Ytoobbolaoldacaa.HotW
