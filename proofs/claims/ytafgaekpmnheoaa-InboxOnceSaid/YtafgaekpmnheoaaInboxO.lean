/-
  The walks of InboxOnce and InboxNone.
-/
import Derived.Test.YtafgaekpmnheoaaInboxL
import Derived.Test.YtafgaekpmnheoaaWWords
import Derived.Deep.RegionWith
import Derived.Outline
namespace Go.Proofs.Ytafgaekpmnheoaa
open Go.RowKit Go.Proofs.YtafgaekpmnheoaaW.PrintWords

theorem next_self (n : Int) : nextB n n = false := by simp [nextB]; omega
set_option maxHeartbeats 1000000 in
theorem once_walk (A : Option Addr) (len cap : Nat) (xs : List Int) (w : World) (hlen : len ≤ 9223372036854775807) (hr : ReadsInt w .i64 A len xs) :
    Calls Try.prog 4 #[.slice A len cap] w fun e w' => e = .returned (.bool true) ∧ Below w.heap.size w w' := by
  by_cases h300 : 300 < len
  · have h300' : (300 : Int) < (len : Int) := by omega
    go_enter Try.func4, Try.ntmps4
    go_wp2_with fail
    refine (lives20 _).mono ?_
    rintro e w' ⟨rfl, hb⟩
    go_wp2_with fail
    go_ret
    exact ⟨rfl, hb⟩
  · have h300' : ¬ (300 : Int) < (len : Int) := by omega
    go_enter Try.func4, Try.ntmps4
    go_wp2_with fail
    refine (New_any _).mono ?_
    rintro e w' ⟨rfl, rfl⟩
    go_wp2_with fail
    go_loopw [14, 4] (fun i la wr => ∃ (k : Nat) (last : Int), k ≤ len ∧ i = .int .i64 k ∧ la = .int .i64 last ∧ 0 ≤ last ∧ last ≤ 2147483647 ∧
        wr.heap[w.heap.size]? = some (.cells #[.bool true, .int .i64 last] 33 (0, 0)) ∧ Below w.heap.size w wr)
      (fun i _ _ => len - (intOf i).toNat)
    case atStart =>
      exact ⟨0, 0, Nat.zero_le _, rfl, rfl, by omega, by omega, new_at _ _, (Below.refl _ w).alloc (Nat.le_refl _) _⟩
    case round =>
      obtain ⟨k, last, hk, rfl, rfl, hl0, hl1, hb, hB⟩ := hrel
      by_cases hlt : k < len
      · obtain ⟨ad, rfl, hcell⟩ := (hr.below hB).at_ k (by omega) (by omega)
        have hc0 : wr.cell? ⟨w.heap.size, 0, none⟩ = some (.bool true) := blk_cell hb 0
        have hc1 : wr.cell? ⟨w.heap.size, 1, none⟩ = some (.int .i64 last) := blk_cell hb 1
        have hf1 : wr.frozen? ⟨w.heap.size, 1, none⟩ = false := blk_frozen hb 1
        obtain ⟨n, hn⟩ : ∃ n, rd xs k = n := ⟨_, rfl⟩
        rw [hn, Int.toNat_natCast] at hcell
        have HB := Lib.hid hb
        have HBB := Lib.hid hB
        clear hn hb hB hr
        by_cases hx : nextB last n = true
        · have hq : n = last + 1 ∧ last < 2147483647 := by simp [nextB] at hx; omega
          obtain ⟨rfl, hlt2⟩ := hq
          have hx' := Veil.mk hx
          clear hx
          have hs : ((last + 1 - last) != 1) = false := by simp; omega
          have hs2 : wrap64 (last + 1 - last) = 1 := by unfold wrap64; omega
          go_wp2_with fail
          refine (Take_yes _ _ _ _ ⟨hl0, hl1⟩ hc0 hc1 hf1 hx'.1).mono ?_
          rintro e w' ⟨rfl, rfl⟩
          unfold putN
          go_wp2_with fail
          refine (Ack_any _ (last + 1) _ (by go_simp) (by go_simp)).mono ?_
          rintro e w' ⟨rfl, rfl⟩
          go_wp2_with fail
          refine (Take_no _ (last + 1) _ _ ⟨by omega, by omega⟩ (by go_simp) (by go_simp) (next_self _)).mono ?_
          rintro e w' ⟨rfl, rfl⟩
          go_wp2_with fail
          go_roundw
          case rel => exact ⟨k + 1, last + 1, by omega, by go_num, rfl, by omega, by omega, set_at HB.out 1 _, HBB.out.setCell (by simp) _⟩
          case measure => simp [intOf]; omega
        · have hx' : nextB last n = false := by simpa using hx
          clear hx
          go_wp2_with fail
          refine (Take_no _ _ _ _ ⟨hl0, hl1⟩ hc0 hc1 hx').mono ?_
          rintro e w' ⟨rfl, rfl⟩
          go_wp2_with fail
          refine (Ack_any _ last _ hc0 hc1).mono ?_
          rintro e w' ⟨rfl, rfl⟩
          go_wp2_with fail
          refine (Take_no _ last _ _ ⟨by omega, by omega⟩ hc0 hc1 (next_self _)).mono ?_
          rintro e w' ⟨rfl, rfl⟩
          go_wp2_with fail
          go_roundw
          case rel => exact ⟨k + 1, last, by omega, by go_num, rfl, by omega, by omega, HB.out, HBB.out⟩
          case measure => simp [intOf]; omega
      · go_wp2_with fail
        refine (lives20 _).mono ?_
        rintro e w' ⟨rfl, hb3⟩
        go_wp2_with fail
        go_ret
        exact ⟨rfl, bl_then hB hb3⟩

theorem none_walk (n : Int) (w : World) : Calls Try.prog 5 #[.int .i64 n] w fun e w' => e = .returned (.bool true) ∧ Below w.heap.size w w' := by
  go_enter Try.func5, Try.ntmps5
  go_wp2_with fail
  go_loopw [11] (fun i wr => ∃ (k : Nat), k ≤ 2 ∧ i = .int .i64 k ∧
      wr.heap[w.heap.size]? = some (.cells #[.bool false, .int .i64 0] 33 (0, 0)) ∧ wr.heap[w.heap.size + 1]? = some (.cells #[.pointer none, .pointer (some ⟨w.heap.size, 0, none⟩)] 24 (0, 0)) ∧ Below w.heap.size w wr)
    (fun i _ => 2 - (intOf i).toNat)
  case atStart =>
    exact ⟨0, Nat.zero_le _, rfl, old_at (new_at _ _) _, new_at1 _ _ _, ((Below.refl _ w).alloc (Nat.le_refl _) _).alloc (by simp) _⟩
  case round =>
    obtain ⟨k, hk, rfl, hb, hb2, hB⟩ := hrel
    have hc0 : wr.cell? ⟨w.heap.size, 0, none⟩ = some (.bool false) := blk_cell hb 0
    have hd0 : wr.cell? ⟨w.heap.size + 1, 0, none⟩ = some (.pointer none) := blk_cell hb2 0
    have hd1 : wr.cell? ⟨w.heap.size + 1, 1, none⟩ = some (.pointer (some ⟨w.heap.size, 0, none⟩)) := blk_cell hb2 1
    have HB := Lib.hid hb
    have HB2 := Lib.hid hb2
    have HBB := Lib.hid hB
    clear hb hb2 hB
    rcases (show k = 0 ∨ k = 1 ∨ k = 2 by omega) with rfl | rfl | rfl
    · go_wp2_with fail
      refine (Take_nil _ _).mono ?_
      rintro e w' ⟨rfl, rfl⟩
      go_wp2_with fail
      refine (Take_nil _ _).mono ?_
      rintro e w' ⟨rfl, rfl⟩
      go_wp2_with fail
      refine (Ack_nil _).mono ?_
      rintro e w' ⟨rfl, rfl⟩
      go_wp2_with fail
      go_roundw
      case rel => exact ⟨1, by omega, rfl, HB.out, HB2.out, HBB.out⟩
      case measure => simp [intOf]
    · go_wp2_with fail
      refine (Take_none _ _ _ hc0).mono ?_
      rintro e w' ⟨rfl, rfl⟩
      go_wp2_with fail
      refine (Take_none _ _ _ hc0).mono ?_
      rintro e w' ⟨rfl, rfl⟩
      go_wp2_with fail
      refine (Ack_none _ _ hc0).mono ?_
      rintro e w' ⟨rfl, rfl⟩
      go_wp2_with fail
      go_roundw
      case rel => exact ⟨2, by omega, rfl, HB.out, HB2.out, HBB.out⟩
      case measure => simp [intOf]
    · go_wp2_with fail
      refine (lives20 _).mono ?_
      rintro e w' ⟨rfl, hb3⟩
      go_wp2_with fail
      go_ret
      exact ⟨rfl, bl_then HBB.out hb3⟩
end Go.Proofs.Ytafgaekpmnheoaa
