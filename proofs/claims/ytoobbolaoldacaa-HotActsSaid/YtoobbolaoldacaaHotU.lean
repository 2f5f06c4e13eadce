/-
  Use of package hot.
-/
import Derived.Test.YtoobbolaoldacaaHotC
import Derived.Test.YtoobbolaoldacaaWLast
import Derived.Test.YtoobbolaoldacaaWTab
namespace Go.Proofs.Ytoobbolaoldacaa.HotW
open Go.RowKit Go.Proofs.Ytoobbolaoldacaa Go.Proofs.Ytoobbolaoldacaa.Hot Go.Proofs.Ytoobbolaoldacaa.HotBP Go.Proofs.Ytoobbolaoldacaa.BitsPlain Go.Proofs.Ytoobbolaoldacaa.RowOwn Go.Proofs.Ytoobbolaoldacaa.CloneI Go.Proofs.YtoobbolaoldacaaW.PrintWords Go.Proofs.YtoobbolaoldacaaW.PrintLast Go.Proofs.YtoobbolaoldacaaW.PrintMore
set_option linter.unusedVariables false
set_option linter.unusedSimpArgs false
def mayN (need busy : Nat) (x : Int) : Bool := !hasN (need ||| busy) x
def overN (m : Int) (need : Nat) (L : List Int) : Bool := decide (m < ((pop 64 (ofN L ||| need) : Nat) : Int))
def trimK (m : Int) (need busy : Nat) : Nat → List Int → List Int
  | 0, L => L
  | k + 1, L => if overN m need L && L.any (mayN need busy) then trimK m need busy k (L.eraseP (mayN need busy)) else L
def trimN (m : Int) (need busy : Nat) (L : List Int) : List Int := trimK m need busy L.length L
theorem trim_stop (m : Int) (need busy : Nat) (L : List Int) (h : (overN m need L && L.any (mayN need busy)) = false) : trimN m need busy L = L := by
  unfold trimN
  cases L.length with
  | zero => rfl
  | succ k => unfold trimK; rw [h]; rfl
theorem trim_go (m : Int) (need busy : Nat) (L : List Int) (h : (overN m need L && L.any (mayN need busy)) = true) : trimN m need busy L = trimN m need busy (L.eraseP (mayN need busy)) ∧ (L.eraseP (mayN need busy)).length + 1 = L.length := by
  have ha : L.any (mayN need busy) = true := by simp at h; simpa using h.2
  obtain ⟨x, hx, hp⟩ := List.any_eq_true.1 ha
  have hl : (L.eraseP (mayN need busy)).length = L.length - 1 := List.length_eraseP_of_mem hx hp
  have hpos : 0 < L.length := List.length_pos_of_mem hx
  refine ⟨?_, by omega⟩
  unfold trimN
  obtain ⟨k, hk⟩ : ∃ k, L.length = k + 1 := ⟨L.length - 1, by omega⟩
  rw [hl, hk]
  show (if _ then _ else _) = _
  rw [h]
  rfl
def stepN (L : List Int) (e : Int) : List Int := L.eraseP (fun x => x == e) ++ [e]
def useN (m : Int) (L : List Int) (need busy : Nat) : (Bool × Bool) × List Int :=
  if fitsN m L need busy then ((((ofN ((intsN (list need)).foldl stepN (trimN m need busy L)) : Nat) : Int) != ((ofN L : Nat) : Int), true), (intsN (list need)).foldl stepN (trimN m need busy L)) else ((false, false), L)
/-- the set, beside blocks that nothing of it is (Pr) -/
def US (w0 : World) (S0 Pr : Nat → Prop) (g base : Nat) (m : Int) (L : List Int) (u : World) : Prop :=
  ∃ S, HotAt u g base m L S ∧ (∀ k, S k → ¬ Pr k) ∧ (∀ k, Pr k → k < u.heap.size) ∧ (∀ k, S k → S0 k ∨ w0.heap.size ≤ k) ∧ OnlyS S0 w0 u
variable {w0 u : World} {S0 Pr : Nat → Prop} {g base : Nat} {m : Int} {need busy : Nat} {L : List Int}
theorem us_below {u' : World} (h : US w0 S0 Pr g base m L u) (hb : Below u.heap.size u u') : US w0 S0 Pr g base m L u' := by
  obtain ⟨S, hH, hd, hp, hs, ho⟩ := h
  exact ⟨S, hot_below hH hb, hd, fun k hk => Nat.lt_of_lt_of_le (hp k hk) hb.size, hs, ho.below hb⟩
theorem us_drew (h : US w0 S0 Pr g base m L u) : US w0 S0 Pr g base m L u.drew := us_below h (bl_drew (Below.refl _ _) 1)
/-- new blocks are none of the set's -/
theorem us_more {u' : World} (h : US w0 S0 Pr g base m L u) (hb : Below u.heap.size u u') : US w0 S0 (fun k => Pr k ∨ u.heap.size ≤ k ∧ k < u'.heap.size) g base m L u' := by
  obtain ⟨S, hH, hd, hp, hs, ho⟩ := h
  have hlt : ∀ k, S k → k < u.heap.size := by
    obtain ⟨_, _, _, _, _, _, _, hl, _⟩ := hH
    exact fun k hk => (hl k hk).2
  refine ⟨S, hot_below hH hb, fun k hk hpr => ?_, fun k hk => ?_, hs, ho.below hb⟩
  · rcases hpr with h | h
    · exact hd k hk h
    · have := hlt k hk; omega
  · rcases hk with h | h
    · exact Nat.lt_of_lt_of_le (hp k h) hb.size
    · exact h.2
theorem us_less {Pr' : Nat → Prop} (h : US w0 S0 Pr g base m L u) (hp : ∀ k, Pr' k → Pr k) : US w0 S0 Pr' g base m L u := by
  obtain ⟨S, hH, hd, hp', hs, ho⟩ := h
  exact ⟨S, hH, fun k hk h => hd k hk (hp k h), fun k hk => hp' k (hp k hk), hs, ho⟩
theorem us_cell (h : US w0 S0 Pr g base m L u) : u.cell? ⟨g, 0, none⟩ = some (.int .i64 m) := by
  obtain ⟨S, hH, hd, hp, hs, ho⟩ := h
  exact (hot_cells hH).1
theorem use_box (w : World) (y : Int) : Below w.heap.size w (w.drew.alloc (.cells #[.int .i64 y] 3)) := bl_all (w := w) (bl_drew (Below.refl _ _) 1) _
theorem use_made (w : World) (y : Int) (base : Nat) : Made KI (w.drew.alloc (.cells #[.int .i64 y] 3)) base (fun _ => False) (some ⟨w.heap.size, 0, none⟩) 1 [y] := by
  refine ⟨rfl, fun _ => ⟨_, [.int .i64 y], rfl, ⟨rfl, fun j p hj => ?_⟩, fun j u hu => ?_⟩⟩
  · match j, hj with
    | 0, hj =>
      injection hj with hj
      subst hj
      rfl
    | j + 1, hj => simp at hj
  · match j, hu with
    | 0, hu =>
      injection hu with hu
      subst hu
      exact blk_cell (new_at w.drew (.cells #[.int .i64 y] 3)) 0
    | j + 1, hu => simp at hu
theorem us_step {L' : List Int} {f : FuncId} {args : Array Value} {R : Ending → Prop} (h : US w0 S0 Pr g base m L u)
    (hc : ∀ S, HotAt u g base m L S → Calls Try.prog f args u fun e w' => R e ∧ ∃ S', HotAt w' g base m L' S' ∧ (∀ k, S' k → S k ∨ u.heap.size ≤ k) ∧ OnlyS S u w') :
    Calls Try.prog f args u fun e w' => R e ∧ US w0 S0 Pr g base m L' w' ∧ ∀ k, Pr k → w'.heap[k]? = u.heap[k]? := by
  obtain ⟨S, hH, hd, hp, hs, ho⟩ := h
  refine (hc S hH).mono ?_
  rintro e w' ⟨he, S', hH', hS', ho'⟩
  refine ⟨he, ⟨S', hH', fun k hk hpr => ?_, fun k hk => Nat.lt_of_lt_of_le (hp k hk) ho'.size, fun k hk => ?_, ho.trans ho' hs⟩, fun k hk => ho'.block k (hp k hk) (fun h => hd k h hk)⟩
  · rcases hS' k hk with h | h
    · exact hd k h hpr
    · have := hp k hpr; omega
  · rcases hS' k hk with h | h
    · exact hs k h
    · have := ho.size; exact .inr (by omega)
theorem us_leave67 (b1 b2 : Nat) (h : US w0 S0 Pr g base m L u) (h1 : u.heap[b1]? = some (.cells #[.int .u64 (need : Int)] 42 (0, 0))) (h2 : u.heap[b2]? = some (.cells #[.int .u64 (busy : Int)] 42 (0, 0))) (hn : need < 2 ^ 64) (hb : busy < 2 ^ 64) :
    Calls Try.prog 69 #[.pointer (some ⟨g, 0, none⟩), .func (.func 67) #[] #[.pointer (some ⟨b1, 0, none⟩), .pointer (some ⟨b2, 0, none⟩)]] u fun e w' => e = .returned (.bool (L.any (mayN need busy))) ∧ US w0 S0 Pr g base m (L.eraseP (mayN need busy)) w' ∧ ∀ k, Pr k → w'.heap[k]? = u.heap[k]? :=
  us_step h (fun S hS => leave67 b1 b2 (mayN need busy) g base m L S u hS (fun x n => Calls.quiet_of (w := u) (n := n) ((may_c b1 b2 need busy x (u.drewN n) (blk_cell h1 0) (blk_cell h2 0) hn hb).mono fun e w' ⟨he, k, hk⟩ => ⟨he, k, hk⟩)))
theorem us_leave70 (b3 : Nat) (y : Int) (h : US w0 S0 Pr g base m L u) (h1 : u.heap[b3]? = some (.cells #[.int .i64 y] 3 (0, 0))) :
    Calls Try.prog 69 #[.pointer (some ⟨g, 0, none⟩), .func (.func 70) #[] #[.pointer (some ⟨b3, 0, none⟩)]] u fun e w' => e = .returned (.bool (L.any (fun x => x == y))) ∧ US w0 S0 Pr g base m (L.eraseP (fun x => x == y)) w' ∧ ∀ k, Pr k → w'.heap[k]? = u.heap[k]? :=
  us_step h (fun S hS => leave70 b3 (fun x => x == y) g base m L S u hS (fun x n => Calls.quiet_of (w := u) (n := n) ((eq_c b3 y x (u.drewN n) (blk_cell h1 0)).mono fun e w' ⟨he, hk⟩ => ⟨he, 0, hk.symm⟩)))
theorem us_mask (h : US w0 S0 Pr g base m L u) (hm : 0 < m) : Calls Try.prog 23 #[.pointer (some ⟨g, 0, none⟩)] u fun e w' => e = .returned (.int .u64 ((ofN L : Nat) : Int)) ∧ Drawn0 u w' := by
  obtain ⟨S, hH, hd, hp, hs, ho⟩ := h
  exact Mask_c g base m L S u hm hH
theorem us_end (h : US w0 S0 Pr g base m L u) : ∃ S', HotAt u g base m L S' ∧ (∀ k, S' k → S0 k ∨ w0.heap.size ≤ k) ∧ OnlyS S0 w0 u := by
  obtain ⟨S, hH, hd, hp, hs, ho⟩ := h
  exact ⟨S, hH, hs, ho⟩
set_option maxHeartbeats 4000000 in
set_option maxRecDepth 100000 in
theorem Use_c (g base : Nat) (m : Int) (L : List Int) (S : Nat → Prop) (need busy : Nat) (w : World) (hm : 0 < m) (hn : need < 2 ^ 64) (hb : busy < 2 ^ 64) (hL : L.length ≤ 50000) (h : HotAt w g base m L S) :
    Calls Try.prog 22 #[.pointer (some ⟨g, 0, none⟩), .int .u64 (need : Int), .int .u64 (busy : Int)] w fun e w' => e = .returned (.tuple #[.bool (useN m L need busy).1.1, .bool (useN m L need busy).1.2]) ∧ ∃ S', HotAt w' g base m (useN m L need busy).2 S' ∧ (∀ k, S' k → S k ∨ w.heap.size ≤ k) ∧ OnlyS S w w' := by
  have hgl := hot_lt h
  have hus : US w S (fun k => w.heap.size ≤ k ∧ k < w.heap.size + 2) g base m L ((w.alloc (.cells #[.int .u64 (need : Int)] 42)).alloc (.cells #[.int .u64 (busy : Int)] 42)) := by
    have hbl : Below w.heap.size w ((w.alloc (.cells #[.int .u64 (need : Int)] 42)).alloc (.cells #[.int .u64 (busy : Int)] 42)) := bl_all (bl_all (Below.refl _ _) _) _
    have hlt : ∀ k, S k → k < w.heap.size := by
      obtain ⟨_, _, _, _, _, _, _, hl, _⟩ := h
      exact fun k hk => (hl k hk).2
    exact ⟨S, hot_below h hbl, fun k hk hp => by have := hlt k hk; omega, fun k hk => by rw [World.size_alloc, World.size_alloc]; omega, fun k hk => .inl hk, OnlyS.of_below hbl⟩
  have HUS := Lib.hid hus
  have HBX := Lib.hid (And.intro (old_at (new_at w (.cells #[.int .u64 (need : Int)] 42)) (.cells #[.int .u64 (busy : Int)] 42)) (new_at1 w (.cells #[.int .u64 (need : Int)] 42) (.cells #[.int .u64 (busy : Int)] 42)))
  clear hus
  have FT := Lib.hid (fun u S (hu : HotAt u g base m L S) => Fits_c g base m L S need busy u hm hn hb hu)
  by_cases hf : fitsN m L need busy = true
  · rw [show useN m L need busy = ((((ofN ((intsN (list need)).foldl stepN (trimN m need busy L)) : Nat) : Int) != ((ofN L : Nat) : Int), true), (intsN (list need)).foldl stepN (trimN m need busy L)) by unfold useN; rw [if_pos hf]]
    rw [hf] at FT
    have hMl := list_len need
    have LI := Lib.hid (fun u => bits_List.calls _ _ u (list_p need hn))
    generalize intsN (list need) = M at LI hMl ⊢
    clear hf
    go_enter Try.func22, Try.ntmps22
    go_wp2_with fail
    generalize (w.alloc (.cells #[.int .u64 (need : Int)] 42)).alloc (.cells #[.int .u64 (busy : Int)] 42) = wa at HUS HBX ⊢
    generalize hb1 : w.heap.size = b1 at HUS HBX
    have HBX2 : Hid (wa.heap[b1]? = some (.cells #[.int .u64 (need : Int)] 42 (0, 0)) ∧ wa.heap[b1 + 1]? = some (.cells #[.int .u64 (busy : Int)] 42 (0, 0))) := HBX
    have ca : wa.cell? ⟨b1, 0, none⟩ = some (.int .u64 (need : Int)) := blk_cell HBX2.out.1 0
    clear HBX
    obtain ⟨S1, hH1, hd1, hp1, hs1, ho1⟩ := HUS.out
    refine (FT.out _ _ hH1).mono ?_
    rintro e w2 ⟨rfl, hb3⟩
    have HUS2 := Lib.hid (us_below HUS.out hb3)
    have HX2 := Lib.hid (And.intro (keep_at_all HBX2.out.1 hb3) (keep_at_all HBX2.out.2 hb3))
    clear hH1 hd1 hp1 hs1 ho1 hb3 HUS HBX2 ca FT
    go_wp2_with fail
    refine (us_mask HUS2.out hm).mono ?_
    rintro e w3 ⟨rfl, n3, rfl⟩
    have HUS3 := Lib.hid (us_below HUS2.out (bl_drew (Below.refl _ _) n3))
    have HX3 : Hid ((w2.drewN n3).heap[b1]? = _ ∧ (w2.drewN n3).heap[b1 + 1]? = _) := HX2
    generalize w2.drewN n3 = w4 at HUS3 HX3 ⊢
    clear HUS2 HX2
    go_wp2_with fail
    go_loopg [34] (L.length + 1) (fun kq v34 wr => ∃ L', L'.length < kq ∧ L'.length ≤ L.length ∧ trimN m need busy L' = trimN m need busy L ∧ Aside0 (US w S (fun k => b1 ≤ k ∧ k < b1 + 2) g base m L' wr) ∧ Aside0 (wr.heap[b1]? = some (.cells #[.int .u64 (need : Int)] 42 (0, 0)) ∧ wr.heap[b1 + 1]? = some (.cells #[.int .u64 (busy : Int)] 42 (0, 0))))
    case atStart => exact ⟨L, by omega, Nat.le_refl _, rfl, ⟨HUS3.out⟩, ⟨HX3.out⟩⟩
    case round =>
      obtain ⟨L', hk1, hk2, hk3, HUS, HX⟩ := hrel
      clear HUS3 HX3
      cases gk with
      | zero => omega
      | succ k1 =>
        have c1 : wr.cell? ⟨b1, 0, none⟩ = some (.int .u64 (need : Int)) := blk_cell HX.out.1 0
        have hO : ofN L' < 2 ^ 64 := ofN_lt L' 0 (by omega)
        have hq : (ofN L' ||| need) < 2 ^ 64 := Nat.or_lt_two_pow hO hn
        have MK := Lib.hid (fun u (hu : US w S (fun k => b1 ≤ k ∧ k < b1 + 2) g base m L' u) => us_mask hu hm)
        have CT := Lib.hid (fun u => bits_Count.calls _ _ u (count_p _ hq))
        have eor : Go.bits .or .u64 ((ofN L' : Nat) : Int) (need : Int) = ((ofN L' ||| need : Nat) : Int) := u64_or_nat _ _ hO hn
        have LV := Lib.hid (fun u (hu : US w S (fun k => b1 ≤ k ∧ k < b1 + 2) g base m L' u) h1 h2 => us_leave67 b1 (b1 + 1) hu h1 h2 hn hb)
        clear hO hq
        by_cases hov : overN m need L' = true
        · have hovd : decide (m < ((pop 64 (ofN L' ||| need) : Nat) : Int)) = true := hov
          by_cases hany : L'.any (mayN need busy) = true
          · obtain ⟨ht1, ht2⟩ := trim_go m need busy L' (by rw [hov, hany]; rfl)
            rw [hany] at LV
            generalize hE : L'.eraseP (mayN need busy) = L2 at LV ht1 ht2
            clear hany hov hE
            generalize ofN L' ||| need = q at CT eor hovd
            generalize pop 64 q = z at CT hovd
            generalize ofN L' = q3 at MK eor
            go_upto_region 5 with (fail)
            refine start_ (n := 15) (S := fun w' => w'.cell? ⟨b1, 0, none⟩ = some (.int .u64 (need : Int)) ∧ w'.cell? ⟨g, 0, none⟩ = some (.int .i64 m)) (ds := []) #[false, false, false, false, false, false, false, false, false, false, false, false, false, false, false] (by kernel_rfl) rfl rfl ⟨c1, us_cell (us_drew HUS.out)⟩ (fun hHeld => ?_)
            refine pure_ (i := 0) (N := some 20) (v := ?_) (a' := ?_) #[true, false, false, false, false, false, false, false, false, false, false, false, false, false, false] rfl rfl (by kernel_rfl) (fun _ _ _ h => h) (Or.inl ⟨by rfl, ?_⟩) ?_ ?_
            rotate_left
            · intro w'
              go_simp
              with_reducible rfl
            rotate_left
            · simp only [Act.put, List.setIfInBounds_toArray, List.set_cons_zero, List.set_cons_succ, i64_w, i32_w]
              rfl
            refine pure_ (i := 5) (N := some 25) (v := ?_) (a' := ?_) #[true, false, false, false, false, true, false, false, false, false, false, false, false, false, false] rfl rfl (by kernel_rfl) (fun _ _ _ h => h) (Or.inl ⟨by rfl, ?_⟩) ?_ ?_
            rotate_left
            · intro w'
              go_simp
              with_reducible rfl
            rotate_left
            · simp only [Act.put, List.setIfInBounds_toArray, List.set_cons_zero, List.set_cons_succ, i64_w, i32_w]
              rfl
            refine pure_ (i := 6) (N := some 26) (v := ?_) (a' := ?_) #[true, false, false, false, false, true, true, false, false, false, false, false, false, false, false] rfl rfl (by kernel_rfl) (fun _ _ _ h => h) (Or.inl ⟨by rfl, ?_⟩) ?_ ?_
            rotate_left
            · intro w'
              go_simp
              with_reducible rfl
            rotate_left
            · simp only [Act.put, List.setIfInBounds_toArray, List.set_cons_zero, List.set_cons_succ, i64_w, i32_w]
              rfl
            refine pure_ (i := 7) (N := some 27) (v := ?_) (a' := ?_) #[true, false, false, false, false, true, true, true, false, false, false, false, false, false, false] rfl rfl (by kernel_rfl) (fun _ _ _ h => h) (Or.inl ⟨by rfl, ?_⟩) ?_ ?_
            rotate_left
            · intro w'
              go_simp
              with_reducible rfl
            rotate_left
            · simp only [Act.put, List.setIfInBounds_toArray, List.set_cons_zero, List.set_cons_succ, i64_w, i32_w]
              rfl
            refine take_ (i := 2) (N := some 22) (v := ?_) (a' := ?_) #[true, false, true, false, false, true, true, true, false, false, false, false, false, false, false] rfl rfl (by kernel_rfl) (fun _ _ _ h => h) (Or.inl ⟨by rfl, ?_⟩) hHeld ?_ ?_
            rotate_left
            · rintro w' ⟨s0, s1⟩
              go_simp
              with_reducible rfl
            rotate_left
            · simp only [Act.put, List.setIfInBounds_toArray, List.set_cons_zero, List.set_cons_succ, i64_w, i32_w]
              rfl
            refine take_ (i := 8) (N := some 28) (v := ?_) (a' := ?_) #[true, false, true, false, false, true, true, true, true, false, false, false, false, false, false] rfl rfl (by kernel_rfl) (fun _ _ _ h => h) (Or.inl ⟨by rfl, ?_⟩) hHeld ?_ ?_
            rotate_left
            · rintro w' ⟨s0, s1⟩
              go_simp
              with_reducible rfl
            rotate_left
            · simp only [Act.put, List.setIfInBounds_toArray, List.set_cons_zero, List.set_cons_succ, i64_w, i32_w]
              rfl
            refine one_ (i := 1) (N := some 21) #[true, true, true, false, false, true, true, true, true, false, false, false, false, false, false] rfl rfl (by kernel_rfl) (by decide) (fun K hK => ?_)
            refine goes_ Try.func23 (by kernel_rfl) rfl #[.pointer (some ⟨g, 0, none⟩)] (by rfl) rfl rfl (by (try simp only [List.map_toArray, List.map_cons, List.map_nil]); first | done | rfl) ?_
            refine (MK.out _ (us_drew HUS.out)).mono ?_
            rintro e w3 ⟨rfl, hd3⟩
            have hb3 := bl_drawn hd3
            have hus3 := us_below (us_drew HUS.out) hb3
            have hx3 := And.intro (keep_at_all (w := wr.drew) HX.out.1 hb3) (keep_at_all (w := wr.drew) HX.out.2 hb3)
            clear hd3 hb3
            refine ⟨_, rfl, ?_⟩
            refine hK.out _ _ ⟨blk_cell hx3.1 0, us_cell hus3⟩ (fun hHeld => ?_)
            clear hK K
            refine norm_ (a' := ?_) ?_ ?_
            rotate_left
            · show Act.put _ (some 21) _ = _
              simp only [Act.put, List.setIfInBounds_toArray, List.set_cons_zero, List.set_cons_succ, i64_w, i32_w]
              rfl
            refine pure_ (i := 3) (N := some 23) (v := ?_) (a' := ?_) #[true, true, true, true, false, true, true, true, true, false, false, false, false, false, false] rfl rfl (by kernel_rfl) (fun _ _ _ h => h) (Or.inl ⟨by rfl, ?_⟩) ?_ ?_
            rotate_left
            · intro w'
              go_simp
              with_reducible rfl
            rotate_left
            · simp only [Act.put, List.setIfInBounds_toArray, List.set_cons_zero, List.set_cons_succ, i64_w, i32_w]
              rfl
            refine one_ (i := 4) (N := some 24) #[true, true, true, true, true, true, true, true, true, false, false, false, false, false, false] rfl rfl (by kernel_rfl) (by decide) (fun K hK => ?_)
            refine goes_ Try.func66 (by kernel_rfl) rfl #[.int .u64 (q : Int)] (by rfl) rfl rfl (by (try simp only [List.map_toArray, List.map_cons, List.map_nil]); first | done | rfl) ?_
            refine (CT.out _).mono ?_
            rintro e w4 ⟨rfl, hb4⟩
            have hus4 := us_below hus3 hb4
            have hx4 := And.intro (keep_at_all hx3.1 hb4) (keep_at_all hx3.2 hb4)
            clear hb4
            refine ⟨_, rfl, ?_⟩
            refine hK.out _ _ ⟨blk_cell hx4.1 0, us_cell hus4⟩ (fun hHeld => ?_)
            clear hK K
            refine norm_ (a' := ?_) ?_ ?_
            rotate_left
            · show Act.put _ (some 24) _ = _
              simp only [Act.put, List.setIfInBounds_toArray, List.set_cons_zero, List.set_cons_succ, i64_w, i32_w]
              rfl
            refine pure_ (i := 9) (N := some 29) (v := ?_) (a' := ?_) #[true, true, true, true, true, true, true, true, true, true, false, false, false, false, false] rfl rfl (by kernel_rfl) (fun _ _ _ h => h) (Or.inl ⟨by rfl, ?_⟩) ?_ ?_
            rotate_left
            · intro w'
              go_simp
              with_reducible rfl
            rotate_left
            · simp only [Act.put, List.setIfInBounds_toArray, List.set_cons_zero, List.set_cons_succ, i64_w, i32_w]
              rfl
            refine pure_ (i := 10) (N := some 30) (v := ?_) (a' := ?_) #[true, true, true, true, true, true, true, true, true, true, true, false, false, false, false] rfl rfl (by kernel_rfl) (fun _ _ _ h => h) (Or.inl ⟨by rfl, ?_⟩) ?_ ?_
            rotate_left
            · intro w'
              go_simp
              with_reducible rfl
            rotate_left
            · simp only [Act.put, List.setIfInBounds_toArray, List.set_cons_zero, List.set_cons_succ, i64_w, i32_w]
              rfl
            refine pure_ (i := 11) (N := some 31) (v := ?_) (a' := ?_) #[true, true, true, true, true, true, true, true, true, true, true, true, false, false, false] rfl rfl (by kernel_rfl) (fun _ _ _ h => h) (Or.inl ⟨by rfl, ?_⟩) ?_ ?_
            rotate_left
            · intro w'
              go_simp
              with_reducible rfl
            rotate_left
            · simp only [Act.put, List.setIfInBounds_toArray, List.set_cons_zero, List.set_cons_succ, i64_w, i32_w]
              rfl
            refine pure_ (i := 12) (N := some 32) (v := ?_) (a' := ?_) #[true, true, true, true, true, true, true, true, true, true, true, true, true, false, false] rfl rfl (by kernel_rfl) (fun _ _ _ h => h) (Or.inl ⟨by rfl, ?_⟩) ?_ ?_
            rotate_left
            · intro w'
              go_simp
              with_reducible rfl
            rotate_left
            · simp only [Act.put, List.setIfInBounds_toArray, List.set_cons_zero, List.set_cons_succ, i64_w, i32_w]
              rfl
            refine one_ (i := 13) (N := some 33) #[true, true, true, true, true, true, true, true, true, true, true, true, true, true, false] rfl rfl (by kernel_rfl) (by decide) (fun K hK => ?_)
            refine goes_ Try.func69 (by kernel_rfl) rfl #[.pointer (some ⟨g, 0, none⟩), .func (.func 67) #[] #[.pointer (some ⟨b1, 0, none⟩), .pointer (some ⟨b1 + 1, 0, none⟩)]] (by rfl) rfl rfl (by (try simp only [List.map_toArray, List.map_cons, List.map_nil]); first | done | rfl) ?_
            refine (LV.out _ hus4 hx4.1 hx4.2).mono ?_
            rintro e w5 ⟨rfl, hus5, hper5⟩
            have hx5 := And.intro ((hper5 b1 ⟨by omega, by omega⟩).trans hx4.1) ((hper5 (b1 + 1) ⟨by omega, by omega⟩).trans hx4.2)
            refine ⟨_, rfl, ?_⟩
            refine hK.out _ _ ⟨blk_cell hx5.1 0, us_cell hus5⟩ (fun hHeld => ?_)
            clear hK K
            refine norm_ (a' := ?_) ?_ ?_
            rotate_left
            · show Act.put _ (some 33) _ = _
              simp only [Act.put, List.setIfInBounds_toArray, List.set_cons_zero, List.set_cons_succ, i64_w, i32_w]
              rfl
            refine pure_ (i := 14) (N := some 34) (v := ?_) (a' := ?_) #[true, true, true, true, true, true, true, true, true, true, true, true, true, true, true] rfl rfl (by kernel_rfl) (fun _ _ _ h => h) (Or.inl ⟨by rfl, ?_⟩) ?_ ?_
            rotate_left
            · intro w'
              go_simp
              with_reducible rfl
            rotate_left
            · simp only [Act.put, List.setIfInBounds_toArray, List.set_cons_zero, List.set_cons_succ, i64_w, i32_w]
              rfl
            refine done_ (by kernel_rfl) ?_
            clear MK CT LV hus3 hx3 hus4 hx4 hHeld HUS HX hper5 c1
            go_wp2_with fail
            go_roundg k1
            case measure => omega
            case rel => exact ⟨L2, by omega, by omega, ht1.symm.trans hk3, ⟨hus5⟩, ⟨hx5⟩⟩
          · have hany' : L'.any (mayN need busy) = false := by simpa using hany
            have hst := trim_stop m need busy L' (by rw [hov, hany']; rfl)
            have heq : L'.eraseP (mayN need busy) = L' := List.eraseP_of_forall_not (fun x hx => by have := List.any_eq_false.1 hany' x hx; simpa using this)
            rw [hany', heq] at LV
            have HLT := Lib.hid (hst.symm.trans hk3)
            clear hany hany' heq hov hst hk3
            generalize ofN L' ||| need = q at CT eor hovd
            generalize pop 64 q = z at CT hovd
            generalize ofN L' = q3 at MK eor
            go_upto_region 5 with (fail)
            refine start_ (n := 15) (S := fun w' => w'.cell? ⟨b1, 0, none⟩ = some (.int .u64 (need : Int)) ∧ w'.cell? ⟨g, 0, none⟩ = some (.int .i64 m)) (ds := []) #[false, false, false, false, false, false, false, false, false, false, false, false, false, false, false] (by kernel_rfl) rfl rfl ⟨c1, us_cell (us_drew HUS.out)⟩ (fun hHeld => ?_)
            refine pure_ (i := 0) (N := some 20) (v := ?_) (a' := ?_) #[true, false, false, false, false, false, false, false, false, false, false, false, false, false, false] rfl rfl (by kernel_rfl) (fun _ _ _ h => h) (Or.inl ⟨by rfl, ?_⟩) ?_ ?_
            rotate_left
            · intro w'
              go_simp
              with_reducible rfl
            rotate_left
            · simp only [Act.put, List.setIfInBounds_toArray, List.set_cons_zero, List.set_cons_succ, i64_w, i32_w]
              rfl
            refine pure_ (i := 5) (N := some 25) (v := ?_) (a' := ?_) #[true, false, false, false, false, true, false, false, false, false, false, false, false, false, false] rfl rfl (by kernel_rfl) (fun _ _ _ h => h) (Or.inl ⟨by rfl, ?_⟩) ?_ ?_
            rotate_left
            · intro w'
              go_simp
              with_reducible rfl
            rotate_left
            · simp only [Act.put, List.setIfInBounds_toArray, List.set_cons_zero, List.set_cons_succ, i64_w, i32_w]
              rfl
            refine pure_ (i := 6) (N := some 26) (v := ?_) (a' := ?_) #[true, false, false, false, false, true, true, false, false, false, false, false, false, false, false] rfl rfl (by kernel_rfl) (fun _ _ _ h => h) (Or.inl ⟨by rfl, ?_⟩) ?_ ?_
            rotate_left
            · intro w'
              go_simp
              with_reducible rfl
            rotate_left
            · simp only [Act.put, List.setIfInBounds_toArray, List.set_cons_zero, List.set_cons_succ, i64_w, i32_w]
              rfl
            refine pure_ (i := 7) (N := some 27) (v := ?_) (a' := ?_) #[true, false, false, false, false, true, true, true, false, false, false, false, false, false, false] rfl rfl (by kernel_rfl) (fun _ _ _ h => h) (Or.inl ⟨by rfl, ?_⟩) ?_ ?_
            rotate_left
            · intro w'
              go_simp
              with_reducible rfl
            rotate_left
            · simp only [Act.put, List.setIfInBounds_toArray, List.set_cons_zero, List.set_cons_succ, i64_w, i32_w]
              rfl
            refine take_ (i := 2) (N := some 22) (v := ?_) (a' := ?_) #[true, false, true, false, false, true, true, true, false, false, false, false, false, false, false] rfl rfl (by kernel_rfl) (fun _ _ _ h => h) (Or.inl ⟨by rfl, ?_⟩) hHeld ?_ ?_
            rotate_left
            · rintro w' ⟨s0, s1⟩
              go_simp
              with_reducible rfl
            rotate_left
            · simp only [Act.put, List.setIfInBounds_toArray, List.set_cons_zero, List.set_cons_succ, i64_w, i32_w]
              rfl
            refine take_ (i := 8) (N := some 28) (v := ?_) (a' := ?_) #[true, false, true, false, false, true, true, true, true, false, false, false, false, false, false] rfl rfl (by kernel_rfl) (fun _ _ _ h => h) (Or.inl ⟨by rfl, ?_⟩) hHeld ?_ ?_
            rotate_left
            · rintro w' ⟨s0, s1⟩
              go_simp
              with_reducible rfl
            rotate_left
            · simp only [Act.put, List.setIfInBounds_toArray, List.set_cons_zero, List.set_cons_succ, i64_w, i32_w]
              rfl
            refine one_ (i := 1) (N := some 21) #[true, true, true, false, false, true, true, true, true, false, false, false, false, false, false] rfl rfl (by kernel_rfl) (by decide) (fun K hK => ?_)
            refine goes_ Try.func23 (by kernel_rfl) rfl #[.pointer (some ⟨g, 0, none⟩)] (by rfl) rfl rfl (by (try simp only [List.map_toArray, List.map_cons, List.map_nil]); first | done | rfl) ?_
            refine (MK.out _ (us_drew HUS.out)).mono ?_
            rintro e w3 ⟨rfl, hd3⟩
            have hb3 := bl_drawn hd3
            have hus3 := us_below (us_drew HUS.out) hb3
            have hx3 := And.intro (keep_at_all (w := wr.drew) HX.out.1 hb3) (keep_at_all (w := wr.drew) HX.out.2 hb3)
            clear hd3 hb3
            refine ⟨_, rfl, ?_⟩
            refine hK.out _ _ ⟨blk_cell hx3.1 0, us_cell hus3⟩ (fun hHeld => ?_)
            clear hK K
            refine norm_ (a' := ?_) ?_ ?_
            rotate_left
            · show Act.put _ (some 21) _ = _
              simp only [Act.put, List.setIfInBounds_toArray, List.set_cons_zero, List.set_cons_succ, i64_w, i32_w]
              rfl
            refine pure_ (i := 3) (N := some 23) (v := ?_) (a' := ?_) #[true, true, true, true, false, true, true, true, true, false, false, false, false, false, false] rfl rfl (by kernel_rfl) (fun _ _ _ h => h) (Or.inl ⟨by rfl, ?_⟩) ?_ ?_
            rotate_left
            · intro w'
              go_simp
              with_reducible rfl
            rotate_left
            · simp only [Act.put, List.setIfInBounds_toArray, List.set_cons_zero, List.set_cons_succ, i64_w, i32_w]
              rfl
            refine one_ (i := 4) (N := some 24) #[true, true, true, true, true, true, true, true, true, false, false, false, false, false, false] rfl rfl (by kernel_rfl) (by decide) (fun K hK => ?_)
            refine goes_ Try.func66 (by kernel_rfl) rfl #[.int .u64 (q : Int)] (by rfl) rfl rfl (by (try simp only [List.map_toArray, List.map_cons, List.map_nil]); first | done | rfl) ?_
            refine (CT.out _).mono ?_
            rintro e w4 ⟨rfl, hb4⟩
            have hus4 := us_below hus3 hb4
            have hx4 := And.intro (keep_at_all hx3.1 hb4) (keep_at_all hx3.2 hb4)
            clear hb4
            refine ⟨_, rfl, ?_⟩
            refine hK.out _ _ ⟨blk_cell hx4.1 0, us_cell hus4⟩ (fun hHeld => ?_)
            clear hK K
            refine norm_ (a' := ?_) ?_ ?_
            rotate_left
            · show Act.put _ (some 24) _ = _
              simp only [Act.put, List.setIfInBounds_toArray, List.set_cons_zero, List.set_cons_succ, i64_w, i32_w]
              rfl
            refine pure_ (i := 9) (N := some 29) (v := ?_) (a' := ?_) #[true, true, true, true, true, true, true, true, true, true, false, false, false, false, false] rfl rfl (by kernel_rfl) (fun _ _ _ h => h) (Or.inl ⟨by rfl, ?_⟩) ?_ ?_
            rotate_left
            · intro w'
              go_simp
              with_reducible rfl
            rotate_left
            · simp only [Act.put, List.setIfInBounds_toArray, List.set_cons_zero, List.set_cons_succ, i64_w, i32_w]
              rfl
            refine pure_ (i := 10) (N := some 30) (v := ?_) (a' := ?_) #[true, true, true, true, true, true, true, true, true, true, true, false, false, false, false] rfl rfl (by kernel_rfl) (fun _ _ _ h => h) (Or.inl ⟨by rfl, ?_⟩) ?_ ?_
            rotate_left
            · intro w'
              go_simp
              with_reducible rfl
            rotate_left
            · simp only [Act.put, List.setIfInBounds_toArray, List.set_cons_zero, List.set_cons_succ, i64_w, i32_w]
              rfl
            refine pure_ (i := 11) (N := some 31) (v := ?_) (a' := ?_) #[true, true, true, true, true, true, true, true, true, true, true, true, false, false, false] rfl rfl (by kernel_rfl) (fun _ _ _ h => h) (Or.inl ⟨by rfl, ?_⟩) ?_ ?_
            rotate_left
            · intro w'
              go_simp
              with_reducible rfl
            rotate_left
            · simp only [Act.put, List.setIfInBounds_toArray, List.set_cons_zero, List.set_cons_succ, i64_w, i32_w]
              rfl
            refine pure_ (i := 12) (N := some 32) (v := ?_) (a' := ?_) #[true, true, true, true, true, true, true, true, true, true, true, true, true, false, false] rfl rfl (by kernel_rfl) (fun _ _ _ h => h) (Or.inl ⟨by rfl, ?_⟩) ?_ ?_
            rotate_left
            · intro w'
              go_simp
              with_reducible rfl
            rotate_left
            · simp only [Act.put, List.setIfInBounds_toArray, List.set_cons_zero, List.set_cons_succ, i64_w, i32_w]
              rfl
            refine one_ (i := 13) (N := some 33) #[true, true, true, true, true, true, true, true, true, true, true, true, true, true, false] rfl rfl (by kernel_rfl) (by decide) (fun K hK => ?_)
            refine goes_ Try.func69 (by kernel_rfl) rfl #[.pointer (some ⟨g, 0, none⟩), .func (.func 67) #[] #[.pointer (some ⟨b1, 0, none⟩), .pointer (some ⟨b1 + 1, 0, none⟩)]] (by rfl) rfl rfl (by (try simp only [List.map_toArray, List.map_cons, List.map_nil]); first | done | rfl) ?_
            refine (LV.out _ hus4 hx4.1 hx4.2).mono ?_
            rintro e w5 ⟨rfl, hus5, hper5⟩
            have hx5 := And.intro ((hper5 b1 ⟨by omega, by omega⟩).trans hx4.1) ((hper5 (b1 + 1) ⟨by omega, by omega⟩).trans hx4.2)
            refine ⟨_, rfl, ?_⟩
            refine hK.out _ _ ⟨blk_cell hx5.1 0, us_cell hus5⟩ (fun hHeld => ?_)
            clear hK K
            refine norm_ (a' := ?_) ?_ ?_
            rotate_left
            · show Act.put _ (some 33) _ = _
              simp only [Act.put, List.setIfInBounds_toArray, List.set_cons_zero, List.set_cons_succ, i64_w, i32_w]
              rfl
            refine pure_ (i := 14) (N := some 34) (v := ?_) (a' := ?_) #[true, true, true, true, true, true, true, true, true, true, true, true, true, true, true] rfl rfl (by kernel_rfl) (fun _ _ _ h => h) (Or.inl ⟨by rfl, ?_⟩) ?_ ?_
            rotate_left
            · intro w'
              go_simp
              with_reducible rfl
            rotate_left
            · simp only [Act.put, List.setIfInBounds_toArray, List.set_cons_zero, List.set_cons_succ, i64_w, i32_w]
              rfl
            refine done_ (by kernel_rfl) ?_
            have HUSEX := hus5
            have HXEX := hx5
            clear MK CT LV hus3 hx3 hus4 hx4 hHeld HUS HX hper5 c1
            have HUSX := Lib.hid HUSEX
            have cX : w5.cell? ⟨b1, 0, none⟩ = some (.int .u64 (need : Int)) := blk_cell HXEX.1 0
            go_wp2_with fail
            refine (LI.out _).mono ?_
            rintro e w6 ⟨v6, rfl, hr6, hb6⟩
            obtain ⟨A6, c6, rfl⟩ := Kd.R_slice hr6
            have HUS6 := Lib.hid (us_less (us_more HUSX.out hb6) (Pr' := fun k => w5.heap.size ≤ k ∧ k < w6.heap.size) (fun k hk => .inr hk))
            have HM6 : Hid (Kd.R KI 3 w6 w5.heap.size (fun k => w5.heap.size ≤ k ∧ k < w6.heap.size) (.slice A6 M.length c6) M) := Lib.hid (Kd.R_mono (Kd.R_bound hr6) (fun k hk => ⟨hk.2.1, hk.2.2.1⟩))
            clear hr6 hb6 HUSX cX LI
            generalize (fun k => w5.heap.size ≤ k ∧ k < w6.heap.size) = Pr6 at HUS6 HM6
            go_wp2_with fail
            go_loopw [38] (fun i u => ∃ (j : Nat) (L2 : List Int), j ≤ M.length ∧ i = .int .i64 j ∧ L2 = (M.take j).foldl stepN L' ∧ L2.length ≤ L'.length + j ∧ US w S Pr6 g base m L2 u ∧ Kd.R KI 3 u w5.heap.size Pr6 (.slice A6 M.length c6) M)
              (fun i _ => M.length - (intOf i).toNat)
            case atStart => exact ⟨0, L', Nat.zero_le _, rfl, rfl, Nat.le_refl _, HUS6.out, HM6.out⟩
            case round =>
              obtain ⟨j, L2, hj, rfl, hL2, hlen2, hus, hM⟩ := hrel
              have HU := Lib.hid hus
              have HMR := Lib.hid hM
              clear hus hM HUS6 HM6
              by_cases hlt : j < M.length
              · have hlt' : (j : Int) < (M.length : Int) := by omega
                obtain ⟨ad, rfl, hcell⟩ := at_KI (Kd.R_reads' HMR.out).2.2 j hlt
                have hnext : (M.take (j + 1)).foldl stepN L' = stepN L2 M[j] := by
                  rw [List.take_add_one, List.getElem?_eq_getElem hlt, List.foldl_append, ← hL2]; rfl
                have HNX := Lib.hid hnext
                generalize M[j] = y at hcell HNX
                clear hL2 hnext
                go_wp2_with fail
                have hab : Below wr.heap.size wr (wr.alloc (.cells #[.int .i64 y] 3)) := bl_all (Below.refl _ _) _
                have hblk := new_at wr (.cells #[.int .i64 y] 3)
                have husb := us_more HU.out hab
                have hMb := Kd.R_below HMR.out hab
                have hszb : (wr.alloc (.cells #[.int .i64 y] 3)).heap.size = wr.heap.size + 1 := by rw [World.size_alloc]
                generalize wr.alloc (.cells #[.int .i64 y] 3) = wb at hab hblk husb hMb hszb ⊢
                generalize wr.heap.size = b3 at hblk husb hszb ⊢
                refine (us_leave70 b3 y husb hblk).mono ?_
                rintro e w7 ⟨rfl, hus7, hper7⟩
                have hblk7 := (hper7 b3 (.inr ⟨Nat.le_refl _, by omega⟩)).trans hblk
                have hM7 := Kd.R_move hMb (fun k hk => hper7 k (.inl hk))
                have hus7' := us_less hus7 (Pr' := Pr6) (fun k hk => .inl hk)
                have hle : (L2.eraseP (fun x => x == y)).length ≤ L2.length := List.length_eraseP_le
                obtain ⟨S7, hH7, hd7, hp7, hs7, ho7⟩ := hus7'
                obtain ⟨v7, ok7, hh7, hrow7, hS7, hb7, hdd7, hl7, hn7⟩ := hH7
                obtain ⟨Av, cv, he7, hc7, hC7⟩ := row_reads hrow7
                have HUS7 : Hid (US w S Pr6 g base m (L2.eraseP (fun x => x == y)) w7) := Lib.hid (us_less hus7 (fun k hk => .inl hk))
                generalize hL7 : L2.eraseP (fun x => x == y) = L7 at hrow7 he7 hc7 hle HUS7 hC7 hn7
                have HE := Lib.hid he7
                have HH7 := Lib.hid hh7
                have HR7 := Lib.hid hrow7
                have HD7 := Lib.hid (And.intro hd7 (And.intro hp7 (And.intro hs7 ho7)))
                have HDD := Lib.hid (And.intro hdd7 hl7)
                have HM7 := Lib.hid hM7
                have q1 : w7.cell? ⟨g, 1, none⟩ = some (.slice Av L7.length cv) := by rw [← HE.out]; exact blk_cell hh7 1
                have q2 : w7.cell? ⟨b3, 0, none⟩ = some (.int .i64 y) := blk_cell hblk7 0
                have qa : ∀ o, (w7.alloc o).cell? ⟨g, 1, none⟩ = some (.slice Av L7.length cv) := fun o => by rw [← HE.out]; exact blk_cell (old_at HH7.out o) 1
                have qd : ∀ o, (w7.drew.alloc o).cell? ⟨g, 1, none⟩ = some (.slice Av L7.length cv) := fun o => by rw [← HE.out]; exact blk_cell (old_at (w := w7.drew) HH7.out o) 1
                have hg7 := lt_at hh7
                clear hus7 hper7 hblk7 hM7 husb hMb hab hblk hszb hh7 hrow7 hd7 hp7 hs7 ho7 hdd7 hl7 he7 hC7 HU HMR hcell
                go_wp2_with fail
                go_region_law (refine row_append_step (d := KI) (base := base) (v := .slice Av L7.length cv) (ok := fun k => ok7 k ∨ w7.heap.size ≤ k) (okp := fun _ => False) (xs := L7) (ys := [y]) (m := 1) (c2 := 1) (ad := ⟨w7.heap.size, 0, none⟩) rfl (.tmp 49) (.tmp 51) 54 3 (.int .i64 0) 8 rfl Try.underlying54 info3 rfl (by decide) (by omega) ?gs ?gx ?gO ?gM (by omega) (fun _ h => h.elim) ?gF ?gB ?gL ?_; (case gs => rfl); (case gx => rfl); (case gO => exact row_mono (row_step (HE.out ▸ HR7.out) (fun k hk hlt => (use_box w7 y).block k hlt)) (fun k hk => .inl hk)); (case gM => exact use_made w7 y base); (case gF => exact fun k hk => .inr (Nat.le_trans (use_box w7 y).size hk)); (case gB => exact Nat.le_trans (show base ≤ w7.heap.size by omega) (use_box w7 y).size); (case gL => omega); intro v9 w9 hrow9 hgr9 hat9; obtain ⟨A9, c9, rfl, _, _⟩ := row_reads hrow9; have hh9 : w9.heap[g]? = some (.cells #[.int .i64 m, v7] 88 (0, 0)) := keep_at_grown (keep_at_all HH7.out (use_box w7 y)) hgr9 (fun he => (HDD.out.1 g (row_own_g (HE.out ▸ HR7.out) g he.symm)).2 rfl); have hq9 : w9.cell? ⟨g, 1, none⟩ = some (.slice Av L7.length cv) := (by rw [← HE.out]; exact blk_cell hh9 1); have hf9 : w9.frozen? ⟨g, 1, none⟩ = false := blk_frozen hh9 1)
                all_goals go_wp2_with fail
                all_goals
                  have hln : (L7 ++ [y]).length = L7.length + 1 := by simp
                  have hrow9' := hrow9
                  rw [hln] at hrow9'
                  obtain ⟨S9, hH9, hS9, ho9⟩ := hot_put HH7.out hS7 hb7 HDD.out.1 HDD.out.2 (use_box w7 y) hgr9 (fun k hk => row_own_g (HE.out ▸ HR7.out) k hk) (fun k hk => hk) hrow9' (by omega)
                  obtain ⟨d1, d2, d3, d4⟩ := HD7.out
                  have hus9 : US w S Pr6 g base m (L7 ++ [y]) (w9.setCell ⟨g, 1, none⟩ (.slice A9 (L7.length + 1) c9)) := ⟨S9, hH9, fun k hk hp => by
                    rcases hS9 k hk with h | h
                    · exact d1 k h hp
                    · have := d2 k hp; omega, fun k hk => Nat.lt_of_lt_of_le (d2 k hk) ho9.size, fun k hk => by
                    rcases hS9 k hk with h | h
                    · exact d3 k h
                    · have := d4.size; exact .inr (by omega), d4.trans ho9 d3⟩
                  have hM9 := Kd.R_move HM7.out (fun k hk => ho9.block k (d2 k hk) (fun h => d1 k h hk))
                  exact ⟨⟨j + 1, L7 ++ [y], by omega, by go_num, by rw [HNX.out]; unfold stepN; rw [hL7], by omega, hus9, hM9⟩, by simp [intOf]; omega⟩
              · have hlt' : ¬ (j : Int) < (M.length : Int) := by omega
                have hfin : L2 = M.foldl stepN (trimN m need busy L) := by
                  rw [hL2, List.take_of_length_le (by omega), ← HLT.out]
                have HF := Lib.hid hfin
                have UM := Lib.hid (us_mask HU.out hm)
                clear hL2 hfin HMR
                go_wp2_with fail
                refine UM.out.mono ?_
                rintro e w9 ⟨rfl, n9, rfl⟩
                go_wp2_with fail
                go_ret2
                rw [← HF.out]
                exact ⟨rfl, us_end (us_below HU.out (bl_drew (Below.refl _ _) n9))⟩
        · have hovd : decide (m < ((pop 64 (ofN L' ||| need) : Nat) : Int)) = false := by simpa [overN] using hov
          have hst := trim_stop m need busy L' (by rw [show overN m need L' = false by simpa using hov]; rfl)
          have HLT := Lib.hid (hst.symm.trans hk3)
          clear hov hst hk3
          generalize ofN L' ||| need = q at CT eor hovd
          generalize pop 64 q = z at CT hovd
          generalize ofN L' = q3 at MK eor
          go_upto_region 5 with (fail)
          refine start_ (n := 15) (S := fun w' => w'.cell? ⟨b1, 0, none⟩ = some (.int .u64 (need : Int)) ∧ w'.cell? ⟨g, 0, none⟩ = some (.int .i64 m)) (ds := []) #[false, false, false, false, false, false, false, false, false, false, false, false, false, false, false] (by kernel_rfl) rfl rfl ⟨c1, us_cell (us_drew HUS.out)⟩ (fun hHeld => ?_)
          refine pure_ (i := 0) (N := some 20) (v := ?_) (a' := ?_) #[true, false, false, false, false, false, false, false, false, false, false, false, false, false, false] rfl rfl (by kernel_rfl) (fun _ _ _ h => h) (Or.inl ⟨by rfl, ?_⟩) ?_ ?_
          rotate_left
          · intro w'
            go_simp
            with_reducible rfl
          rotate_left
          · simp only [Act.put, List.setIfInBounds_toArray, List.set_cons_zero, List.set_cons_succ, i64_w, i32_w]
            rfl
          refine pure_ (i := 5) (N := some 25) (v := ?_) (a' := ?_) #[true, false, false, false, false, true, false, false, false, false, false, false, false, false, false] rfl rfl (by kernel_rfl) (fun _ _ _ h => h) (Or.inl ⟨by rfl, ?_⟩) ?_ ?_
          rotate_left
          · intro w'
            go_simp
            with_reducible rfl
          rotate_left
          · simp only [Act.put, List.setIfInBounds_toArray, List.set_cons_zero, List.set_cons_succ, i64_w, i32_w]
            rfl
          refine pure_ (i := 6) (N := some 26) (v := ?_) (a' := ?_) #[true, false, false, false, false, true, true, false, false, false, false, false, false, false, false] rfl rfl (by kernel_rfl) (fun _ _ _ h => h) (Or.inl ⟨by rfl, ?_⟩) ?_ ?_
          rotate_left
          · intro w'
            go_simp
            with_reducible rfl
          rotate_left
          · simp only [Act.put, List.setIfInBounds_toArray, List.set_cons_zero, List.set_cons_succ, i64_w, i32_w]
            rfl
          refine pure_ (i := 7) (N := some 27) (v := ?_) (a' := ?_) #[true, false, false, false, false, true, true, true, false, false, false, false, false, false, false] rfl rfl (by kernel_rfl) (fun _ _ _ h => h) (Or.inl ⟨by rfl, ?_⟩) ?_ ?_
          rotate_left
          · intro w'
            go_simp
            with_reducible rfl
          rotate_left
          · simp only [Act.put, List.setIfInBounds_toArray, List.set_cons_zero, List.set_cons_succ, i64_w, i32_w]
            rfl
          refine take_ (i := 2) (N := some 22) (v := ?_) (a' := ?_) #[true, false, true, false, false, true, true, true, false, false, false, false, false, false, false] rfl rfl (by kernel_rfl) (fun _ _ _ h => h) (Or.inl ⟨by rfl, ?_⟩) hHeld ?_ ?_
          rotate_left
          · rintro w' ⟨s0, s1⟩
            go_simp
            with_reducible rfl
          rotate_left
          · simp only [Act.put, List.setIfInBounds_toArray, List.set_cons_zero, List.set_cons_succ, i64_w, i32_w]
            rfl
          refine take_ (i := 8) (N := some 28) (v := ?_) (a' := ?_) #[true, false, true, false, false, true, true, true, true, false, false, false, false, false, false] rfl rfl (by kernel_rfl) (fun _ _ _ h => h) (Or.inl ⟨by rfl, ?_⟩) hHeld ?_ ?_
          rotate_left
          · rintro w' ⟨s0, s1⟩
            go_simp
            with_reducible rfl
          rotate_left
          · simp only [Act.put, List.setIfInBounds_toArray, List.set_cons_zero, List.set_cons_succ, i64_w, i32_w]
            rfl
          refine one_ (i := 1) (N := some 21) #[true, true, true, false, false, true, true, true, true, false, false, false, false, false, false] rfl rfl (by kernel_rfl) (by decide) (fun K hK => ?_)
          refine goes_ Try.func23 (by kernel_rfl) rfl #[.pointer (some ⟨g, 0, none⟩)] (by rfl) rfl rfl (by (try simp only [List.map_toArray, List.map_cons, List.map_nil]); first | done | rfl) ?_
          refine (MK.out _ (us_drew HUS.out)).mono ?_
          rintro e w3 ⟨rfl, hd3⟩
          have hb3 := bl_drawn hd3
          have hus3 := us_below (us_drew HUS.out) hb3
          have hx3 := And.intro (keep_at_all (w := wr.drew) HX.out.1 hb3) (keep_at_all (w := wr.drew) HX.out.2 hb3)
          clear hd3 hb3
          refine ⟨_, rfl, ?_⟩
          refine hK.out _ _ ⟨blk_cell hx3.1 0, us_cell hus3⟩ (fun hHeld => ?_)
          clear hK K
          refine norm_ (a' := ?_) ?_ ?_
          rotate_left
          · show Act.put _ (some 21) _ = _
            simp only [Act.put, List.setIfInBounds_toArray, List.set_cons_zero, List.set_cons_succ, i64_w, i32_w]
            rfl
          refine pure_ (i := 3) (N := some 23) (v := ?_) (a' := ?_) #[true, true, true, true, false, true, true, true, true, false, false, false, false, false, false] rfl rfl (by kernel_rfl) (fun _ _ _ h => h) (Or.inl ⟨by rfl, ?_⟩) ?_ ?_
          rotate_left
          · intro w'
            go_simp
            with_reducible rfl
          rotate_left
          · simp only [Act.put, List.setIfInBounds_toArray, List.set_cons_zero, List.set_cons_succ, i64_w, i32_w]
            rfl
          refine one_ (i := 4) (N := some 24) #[true, true, true, true, true, true, true, true, true, false, false, false, false, false, false] rfl rfl (by kernel_rfl) (by decide) (fun K hK => ?_)
          refine goes_ Try.func66 (by kernel_rfl) rfl #[.int .u64 (q : Int)] (by rfl) rfl rfl (by (try simp only [List.map_toArray, List.map_cons, List.map_nil]); first | done | rfl) ?_
          refine (CT.out _).mono ?_
          rintro e w4 ⟨rfl, hb4⟩
          have hus4 := us_below hus3 hb4
          have hx4 := And.intro (keep_at_all hx3.1 hb4) (keep_at_all hx3.2 hb4)
          clear hb4
          refine ⟨_, rfl, ?_⟩
          refine hK.out _ _ ⟨blk_cell hx4.1 0, us_cell hus4⟩ (fun hHeld => ?_)
          clear hK K
          refine norm_ (a' := ?_) ?_ ?_
          rotate_left
          · show Act.put _ (some 24) _ = _
            simp only [Act.put, List.setIfInBounds_toArray, List.set_cons_zero, List.set_cons_succ, i64_w, i32_w]
            rfl
          refine pure_ (i := 9) (N := some 29) (v := ?_) (a' := ?_) #[true, true, true, true, true, true, true, true, true, true, false, false, false, false, false] rfl rfl (by kernel_rfl) (fun _ _ _ h => h) (Or.inl ⟨by rfl, ?_⟩) ?_ ?_
          rotate_left
          · intro w'
            go_simp
            with_reducible rfl
          rotate_left
          · simp only [Act.put, List.setIfInBounds_toArray, List.set_cons_zero, List.set_cons_succ, i64_w, i32_w]
            rfl
          refine pure_ (i := 10) (N := some 30) (v := ?_) (a' := ?_) #[true, true, true, true, true, true, true, true, true, true, true, false, false, false, false] rfl rfl (by kernel_rfl) (fun _ _ _ h => h) (Or.inl ⟨by rfl, ?_⟩) ?_ ?_
          rotate_left
          · intro w'
            go_simp
            with_reducible rfl
          rotate_left
          · simp only [Act.put, List.setIfInBounds_toArray, List.set_cons_zero, List.set_cons_succ, i64_w, i32_w]
            rfl
          refine pure_ (i := 11) (N := some 31) (v := undef) (a' := ?_) #[true, true, true, true, true, true, true, true, true, true, true, true, false, false, false] rfl rfl (by kernel_rfl) (fun _ _ _ h => h) (Or.inr ⟨by rfl, rfl⟩) ?_ ?_
          rotate_left
          · simp only [Act.put, List.setIfInBounds_toArray, List.set_cons_zero, List.set_cons_succ, i64_w, i32_w]
            rfl
          refine pure_ (i := 12) (N := some 32) (v := undef) (a' := ?_) #[true, true, true, true, true, true, true, true, true, true, true, true, true, false, false] rfl rfl (by kernel_rfl) (fun _ _ _ h => h) (Or.inr ⟨by rfl, rfl⟩) ?_ ?_
          rotate_left
          · simp only [Act.put, List.setIfInBounds_toArray, List.set_cons_zero, List.set_cons_succ, i64_w, i32_w]
            rfl
          refine pure_ (i := 13) (N := some 33) (v := undef) (a' := ?_) #[true, true, true, true, true, true, true, true, true, true, true, true, true, true, false] rfl rfl (by kernel_rfl) (fun _ _ _ h => h) (Or.inr ⟨by rfl, rfl⟩) ?_ ?_
          rotate_left
          · simp only [Act.put, List.setIfInBounds_toArray, List.set_cons_zero, List.set_cons_succ, i64_w, i32_w]
            rfl
          refine pure_ (i := 14) (N := some 34) (v := ?_) (a' := ?_) #[true, true, true, true, true, true, true, true, true, true, true, true, true, true, true] rfl rfl (by kernel_rfl) (fun _ _ _ h => h) (Or.inl ⟨by rfl, ?_⟩) ?_ ?_
          rotate_left
          · intro w'
            go_simp
            with_reducible rfl
          rotate_left
          · simp only [Act.put, List.setIfInBounds_toArray, List.set_cons_zero, List.set_cons_succ, i64_w, i32_w]
            rfl
          refine done_ (by kernel_rfl) ?_
          have HUSEX := hus4
          have HXEX := hx4
          clear MK CT LV hus3 hx3 hHeld HUS HX c1
          have HUSX := Lib.hid HUSEX
          have cX : w4.cell? ⟨b1, 0, none⟩ = some (.int .u64 (need : Int)) := blk_cell HXEX.1 0
          go_wp2_with fail
          refine (LI.out _).mono ?_
          rintro e w6 ⟨v6, rfl, hr6, hb6⟩
          obtain ⟨A6, c6, rfl⟩ := Kd.R_slice hr6
          have HUS6 := Lib.hid (us_less (us_more HUSX.out hb6) (Pr' := fun k => w4.heap.size ≤ k ∧ k < w6.heap.size) (fun k hk => .inr hk))
          have HM6 : Hid (Kd.R KI 3 w6 w4.heap.size (fun k => w4.heap.size ≤ k ∧ k < w6.heap.size) (.slice A6 M.length c6) M) := Lib.hid (Kd.R_mono (Kd.R_bound hr6) (fun k hk => ⟨hk.2.1, hk.2.2.1⟩))
          clear hr6 hb6 HUSX cX LI
          generalize (fun k => w4.heap.size ≤ k ∧ k < w6.heap.size) = Pr6 at HUS6 HM6
          go_wp2_with fail
          go_loopw [38] (fun i u => ∃ (j : Nat) (L2 : List Int), j ≤ M.length ∧ i = .int .i64 j ∧ L2 = (M.take j).foldl stepN L' ∧ L2.length ≤ L'.length + j ∧ US w S Pr6 g base m L2 u ∧ Kd.R KI 3 u w4.heap.size Pr6 (.slice A6 M.length c6) M)
            (fun i _ => M.length - (intOf i).toNat)
          case atStart => exact ⟨0, L', Nat.zero_le _, rfl, rfl, Nat.le_refl _, HUS6.out, HM6.out⟩
          case round =>
            obtain ⟨j, L2, hj, rfl, hL2, hlen2, hus, hM⟩ := hrel
            have HU := Lib.hid hus
            have HMR := Lib.hid hM
            clear hus hM HUS6 HM6
            by_cases hlt : j < M.length
            · have hlt' : (j : Int) < (M.length : Int) := by omega
              obtain ⟨ad, rfl, hcell⟩ := at_KI (Kd.R_reads' HMR.out).2.2 j hlt
              have hnext : (M.take (j + 1)).foldl stepN L' = stepN L2 M[j] := by
                rw [List.take_add_one, List.getElem?_eq_getElem hlt, List.foldl_append, ← hL2]; rfl
              have HNX := Lib.hid hnext
              generalize M[j] = y at hcell HNX
              clear hL2 hnext
              go_wp2_with fail
              have hab : Below wr.heap.size wr (wr.alloc (.cells #[.int .i64 y] 3)) := bl_all (Below.refl _ _) _
              have hblk := new_at wr (.cells #[.int .i64 y] 3)
              have husb := us_more HU.out hab
              have hMb := Kd.R_below HMR.out hab
              have hszb : (wr.alloc (.cells #[.int .i64 y] 3)).heap.size = wr.heap.size + 1 := by rw [World.size_alloc]
              generalize wr.alloc (.cells #[.int .i64 y] 3) = wb at hab hblk husb hMb hszb ⊢
              generalize wr.heap.size = b3 at hblk husb hszb ⊢
              refine (us_leave70 b3 y husb hblk).mono ?_
              rintro e w7 ⟨rfl, hus7, hper7⟩
              have hblk7 := (hper7 b3 (.inr ⟨Nat.le_refl _, by omega⟩)).trans hblk
              have hM7 := Kd.R_move hMb (fun k hk => hper7 k (.inl hk))
              have hus7' := us_less hus7 (Pr' := Pr6) (fun k hk => .inl hk)
              have hle : (L2.eraseP (fun x => x == y)).length ≤ L2.length := List.length_eraseP_le
              obtain ⟨S7, hH7, hd7, hp7, hs7, ho7⟩ := hus7'
              obtain ⟨v7, ok7, hh7, hrow7, hS7, hb7, hdd7, hl7, hn7⟩ := hH7
              obtain ⟨Av, cv, he7, hc7, hC7⟩ := row_reads hrow7
              have HUS7 : Hid (US w S Pr6 g base m (L2.eraseP (fun x => x == y)) w7) := Lib.hid (us_less hus7 (fun k hk => .inl hk))
              generalize hL7 : L2.eraseP (fun x => x == y) = L7 at hrow7 he7 hc7 hle HUS7 hC7 hn7
              have HE := Lib.hid he7
              have HH7 := Lib.hid hh7
              have HR7 := Lib.hid hrow7
              have HD7 := Lib.hid (And.intro hd7 (And.intro hp7 (And.intro hs7 ho7)))
              have HDD := Lib.hid (And.intro hdd7 hl7)
              have HM7 := Lib.hid hM7
              have q1 : w7.cell? ⟨g, 1, none⟩ = some (.slice Av L7.length cv) := by rw [← HE.out]; exact blk_cell hh7 1
              have q2 : w7.cell? ⟨b3, 0, none⟩ = some (.int .i64 y) := blk_cell hblk7 0
              have qa : ∀ o, (w7.alloc o).cell? ⟨g, 1, none⟩ = some (.slice Av L7.length cv) := fun o => by rw [← HE.out]; exact blk_cell (old_at HH7.out o) 1
              have qd : ∀ o, (w7.drew.alloc o).cell? ⟨g, 1, none⟩ = some (.slice Av L7.length cv) := fun o => by rw [← HE.out]; exact blk_cell (old_at (w := w7.drew) HH7.out o) 1
              have hg7 := lt_at hh7
              clear hus7 hper7 hblk7 hM7 husb hMb hab hblk hszb hh7 hrow7 hd7 hp7 hs7 ho7 hdd7 hl7 he7 hC7 HU HMR hcell
              go_wp2_with fail
              go_region_law (refine row_append_step (d := KI) (base := base) (v := .slice Av L7.length cv) (ok := fun k => ok7 k ∨ w7.heap.size ≤ k) (okp := fun _ => False) (xs := L7) (ys := [y]) (m := 1) (c2 := 1) (ad := ⟨w7.heap.size, 0, none⟩) rfl (.tmp 49) (.tmp 51) 54 3 (.int .i64 0) 8 rfl Try.underlying54 info3 rfl (by decide) (by omega) ?gs ?gx ?gO ?gM (by omega) (fun _ h => h.elim) ?gF ?gB ?gL ?_; (case gs => rfl); (case gx => rfl); (case gO => exact row_mono (row_step (HE.out ▸ HR7.out) (fun k hk hlt => (use_box w7 y).block k hlt)) (fun k hk => .inl hk)); (case gM => exact use_made w7 y base); (case gF => exact fun k hk => .inr (Nat.le_trans (use_box w7 y).size hk)); (case gB => exact Nat.le_trans (show base ≤ w7.heap.size by omega) (use_box w7 y).size); (case gL => omega); intro v9 w9 hrow9 hgr9 hat9; obtain ⟨A9, c9, rfl, _, _⟩ := row_reads hrow9; have hh9 : w9.heap[g]? = some (.cells #[.int .i64 m, v7] 88 (0, 0)) := keep_at_grown (keep_at_all HH7.out (use_box w7 y)) hgr9 (fun he => (HDD.out.1 g (row_own_g (HE.out ▸ HR7.out) g he.symm)).2 rfl); have hq9 : w9.cell? ⟨g, 1, none⟩ = some (.slice Av L7.length cv) := (by rw [← HE.out]; exact blk_cell hh9 1); have hf9 : w9.frozen? ⟨g, 1, none⟩ = false := blk_frozen hh9 1)
              all_goals go_wp2_with fail
              all_goals
                have hln : (L7 ++ [y]).length = L7.length + 1 := by simp
                have hrow9' := hrow9
                rw [hln] at hrow9'
                obtain ⟨S9, hH9, hS9, ho9⟩ := hot_put HH7.out hS7 hb7 HDD.out.1 HDD.out.2 (use_box w7 y) hgr9 (fun k hk => row_own_g (HE.out ▸ HR7.out) k hk) (fun k hk => hk) hrow9' (by omega)
                obtain ⟨d1, d2, d3, d4⟩ := HD7.out
                have hus9 : US w S Pr6 g base m (L7 ++ [y]) (w9.setCell ⟨g, 1, none⟩ (.slice A9 (L7.length + 1) c9)) := ⟨S9, hH9, fun k hk hp => by
                  rcases hS9 k hk with h | h
                  · exact d1 k h hp
                  · have := d2 k hp; omega, fun k hk => Nat.lt_of_lt_of_le (d2 k hk) ho9.size, fun k hk => by
                  rcases hS9 k hk with h | h
                  · exact d3 k h
                  · have := d4.size; exact .inr (by omega), d4.trans ho9 d3⟩
                have hM9 := Kd.R_move HM7.out (fun k hk => ho9.block k (d2 k hk) (fun h => d1 k h hk))
                exact ⟨⟨j + 1, L7 ++ [y], by omega, by go_num, by rw [HNX.out]; unfold stepN; rw [hL7], by omega, hus9, hM9⟩, by simp [intOf]; omega⟩
            · have hlt' : ¬ (j : Int) < (M.length : Int) := by omega
              have hfin : L2 = M.foldl stepN (trimN m need busy L) := by
                rw [hL2, List.take_of_length_le (by omega), ← HLT.out]
              have HF := Lib.hid hfin
              have UM := Lib.hid (us_mask HU.out hm)
              clear hL2 hfin HMR
              go_wp2_with fail
              refine UM.out.mono ?_
              rintro e w9 ⟨rfl, n9, rfl⟩
              go_wp2_with fail
              go_ret2
              rw [← HF.out]
              exact ⟨rfl, us_end (us_below HU.out (bl_drew (Below.refl _ _) n9))⟩
  · have hf' : fitsN m L need busy = false := by simpa using hf
    rw [show useN m L need busy = ((false, false), L) by unfold useN; rw [if_neg hf]]
    rw [hf'] at FT
    clear hf hf'
    go_enter Try.func22, Try.ntmps22
    go_wp2_with fail
    generalize (w.alloc (.cells #[.int .u64 (need : Int)] 42)).alloc (.cells #[.int .u64 (busy : Int)] 42) = wa at HUS ⊢
    obtain ⟨S1, hH1, hd1, hp1, hs1, ho1⟩ := HUS.out
    refine (FT.out _ _ hH1).mono ?_
    rintro e w2 ⟨rfl, hb3⟩
    go_wp2_with fail
    go_ret2
    exact ⟨rfl, S1, hot_below hH1 hb3, hs1, ho1.below hb3⟩
end Go.Proofs.Ytoobbolaoldacaa.HotW
