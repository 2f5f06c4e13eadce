/-
  The walk of InboxTakes.
-/
import Derived.Test.YtafgaekpmnheoaaInboxL
import Derived.Test.YtafgaekpmnheoaaWWords
import Derived.Deep.RegionWith
import Derived.Outline
namespace Go.Proofs.Ytafgaekpmnheoaa
open Go.RowKit Go.Proofs.YtafgaekpmnheoaaW.PrintWords

set_option maxHeartbeats 1000000 in
theorem takes_walk (A : Option Addr) (len cap : Nat) (xs : List Int) (w : World) (hlen : len ≤ 9223372036854775807) (hr : ReadsInt w .i64 A len xs) :
    Calls Try.prog 3 #[.slice A len cap] w fun e w' => e = .returned (.bool true) ∧ Below w.heap.size w w' := by
  by_cases h300 : 300 < len
  · have h300' : (300 : Int) < (len : Int) := by omega
    go_enter Try.func3, Try.ntmps3
    go_wp2_with fail
    refine (lives20 _).mono ?_
    rintro e w' ⟨rfl, hb⟩
    go_wp2_with fail
    go_ret
    exact ⟨rfl, hb⟩
  · have h300' : ¬ (300 : Int) < (len : Int) := by omega
    go_enter Try.func3, Try.ntmps3
    go_wp2_with fail
    refine (New_any _).mono ?_
    rintro e w' ⟨rfl, rfl⟩
    go_wp2_with fail
    go_loopw [16] (fun i wr => ∃ (k : Nat) (last : Int), k ≤ len ∧ i = .int .i64 k ∧ 0 ≤ last ∧ last ≤ 2147483647 ∧
        wr.heap[w.heap.size]? = some (.cells #[.bool true, .int .i64 last] 33 (0, 0)) ∧ wr.heap[w.heap.size + 1]? = some (.cells #[.int .i64 last] 28 (0, 0)) ∧ Below w.heap.size w wr)
      (fun i _ => len - (intOf i).toNat)
    case atStart =>
      exact ⟨0, 0, Nat.zero_le _, rfl, by omega, by omega, old_at (new_at _ _) _, new_at1 _ _ _, ((Below.refl _ w).alloc (Nat.le_refl _) _).alloc (by simp) _⟩
    case round =>
      obtain ⟨k, last, hk, rfl, hl0, hl1, hb, hb2, hB⟩ := hrel
      by_cases hlt : k < len
      · obtain ⟨ad, rfl, hcell⟩ := (hr.below hB).at_ k (by omega) (by omega)
        have hc0 : wr.cell? ⟨w.heap.size, 0, none⟩ = some (.bool true) := blk_cell hb 0
        have hc1 : wr.cell? ⟨w.heap.size, 1, none⟩ = some (.int .i64 last) := blk_cell hb 1
        have hf1 : wr.frozen? ⟨w.heap.size, 1, none⟩ = false := blk_frozen hb 1
        have hd0 : wr.cell? ⟨w.heap.size + 1, 0, none⟩ = some (.int .i64 last) := blk_cell hb2 0
        have hg0 : wr.frozen? ⟨w.heap.size + 1, 0, none⟩ = false := blk_frozen hb2 0
        have HB := Lib.hid hb
        have HB2 := Lib.hid hb2
        have HBB := Lib.hid hB
        have HR := Lib.hid hr
        clear hb hb2 hB hr
        obtain ⟨n, hn⟩ : ∃ n, rd xs k = n := ⟨_, rfl⟩
        rw [hn, Int.toNat_natCast] at hcell
        clear hn
        by_cases hx : nextB last n = true
        · have hy : Veil (nextB last n = true) := ⟨hx⟩
          clear hx
          have hl2 := hl1
          go_wp2_with fail
          go_region_with (first
            | (go_at_call 17; refine (Take_yes _ _ _ _ ⟨hl0, hl1⟩ (by go_simp) (by go_simp) (by go_simp) hy.1).mono ?_; rintro e w' ⟨rfl, rfl⟩; unfold putN)
            | (go_at_call 18; refine (RTake_yes _ _ _ _ ⟨hl0, hl1⟩ (by go_simp) (by go_simp) hy.1).mono ?_; rintro e w' ⟨rfl, rfl⟩; unfold putR)
            | (go_at_call 19; refine (Ack_any _ n _ (by go_simp) (by go_simp)).mono ?_; rintro e w' ⟨rfl, rfl⟩))
          all_goals
            go_wp2_with fail
            go_roundw
            case rel =>
              have hq : n = last + 1 ∧ last < 2147483647 := by have := hy.1; simp [nextB] at this; omega
              obtain ⟨rfl, hlt2⟩ := hq
              refine ⟨k + 1, last + 1, by omega, by go_num, by omega, by omega, ?_, ?_, ?_⟩
              · exact far_at (set_at HB.out 1 _) (by simp) _
              · exact set_at (far_at HB2.out (by simp) _) 0 _
              · exact ((bl_drew HBB.out 1).setCell (by simp) _).setCell (by simp) _
            case measure => simp [intOf]; omega
        · have hx' : nextB last n = false := by simpa using hx
          have hy : Veil (nextB last n = false) := ⟨hx'⟩
          clear hx hx'
          go_wp2_with fail
          go_region_with (first
            | (go_at_call 17; refine (Take_no _ _ _ _ ⟨hl0, hl1⟩ (by go_simp) (by go_simp) hy.1).mono ?_; rintro e w' ⟨rfl, rfl⟩)
            | (go_at_call 18; refine (RTake_no _ _ _ _ ⟨hl0, hl1⟩ (by go_simp) hy.1).mono ?_; rintro e w' ⟨rfl, rfl⟩)
            | (go_at_call 19; refine (Ack_any _ last _ (by go_simp) (by go_simp)).mono ?_; rintro e w' ⟨rfl, rfl⟩))
          all_goals
            go_wp2_with fail
            go_roundw
            case rel => exact ⟨k + 1, last, by omega, by go_num, hl0, hl1, HB.out, HB2.out, bl_drew HBB.out 1⟩
            case measure => simp [intOf]; omega
      · go_wp2_with fail
        refine (lives20 _).mono ?_
        rintro e w' ⟨rfl, hb3⟩
        go_wp2_with fail
        go_ret
        exact ⟨rfl, bl_then hB hb3⟩
end Go.Proofs.Ytafgaekpmnheoaa
