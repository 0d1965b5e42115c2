/- Made by this session's driver over the kit's printer: for each Go function a Lean function with the same answers, and a proof that the Go call comes to these answers; no conditions but the ones each theorem names. -/
import Derived.Test.YtdhiibkcoolbeaaDoorPx0
import Derived.Test.YtdhiibkcoolbeaaDoorPx12
import Derived.Test.YtdhiibkcoolbeaaDoorPx13
import Derived.Test.YtdhiibkcoolbeaaDoorPx14
namespace Go.Proofs.YtdhiibkcoolbeaaDoor.P
open Go.RowKit Go.Proofs.YtdhiibkcoolbeaaDoorW.PrintWords Go.Proofs.YtdhiibkcoolbeaaDoorW.PrintLast Go.Proofs.YtdhiibkcoolbeaaDoorW.PrintMore
attribute [local go_sem] max2_int min2_int max_two min_two max_three min_three max_four min_four   -- for this text's walks alone
set_option linter.unusedVariables false
set_option linter.unusedSimpArgs false

/-! ### stockaderef04_Check: function 12 -/
mutual
def stockaderef04_Check.j0 : Nat → Int → Bool → List (S52) → List (S40) → Option (Int × Int)
 | 0, _, _, _, _ => none
 | k + 1, x4, x28, x326000, x326001 => if x28 = true then (some (0, 3)) else (stockaderef04_Check.l0 k x4 0 x326000 x326001)
def stockaderef04_Check.l0 : Nat → Int → Int → List (S52) → List (S40) → Option (Int × Int)
 | 0, _, _, _, _ => none
 | k + 1, x4, x5, x326000, x326001 => if x5 < (x326000.length : Int) then (if 0 ≤ x5 then ((stockaderef04_May.f ((rd_T52 x326000 x5).f0) ((rd_T52 x326000 x5).f1) ((rd_T52 x326000 x5).f2) ((rd_T52 x326000 x5).f3)).bind fun t327 => (if t327 = true then (stockaderef04_Check.l0 k x4 (wrap64 (x5 + 1)) x326000 x326001) else (some (x5, 26)))) else (none)) else ((stockaderef04_Starts.f k x326001).bind fun t328 => (stockaderef04_Check.l1 k x4 t328 0 0 x326000 x326001))
def stockaderef04_Check.l1 : Nat → Int → List Bool → Int → Int → List (S52) → List (S40) → Option (Int × Int)
 | 0, _, _, _, _, _, _ => none
 | k + 1, x4, x6, x7, x8, x326000, x326001 => if x8 < x4 then (if 0 ≤ x8 then (if x8 < (x6.length : Int) then (if rdOf false x6 x8 = true then ((stockaderef04_Alone.f k x326000 x326001 x8).bind fun t332 => (if t332 = 0 then (stockaderef04_Check.l1 k x4 x6 x8 (wrap64 (x8 + 1)) x326000 x326001) else (some (x8, t332)))) else (stockaderef04_Check.l1 k x4 x6 x7 (wrap64 (x8 + 1)) x326000 x326001)) else (none)) else (none)) else (stockaderef04_Check.l2 k x4 x6 x7 0 x326000 x326001)
def stockaderef04_Check.l2 : Nat → Int → List Bool → Int → Int → List (S52) → List (S40) → Option (Int × Int)
 | 0, _, _, _, _, _, _ => none
 | k + 1, x4, x6, x7, x10, x326000, x326001 => if x10 < x4 then (if 0 ≤ x10 then (if x10 < (x6.length : Int) then (if rdOf false x6 x10 = true then (if x10 < (x326001.length : Int) then ((stockaderef02_Of.f k ((rd_T40 x326001 x10).f0) ((rd_T40 x326001 x10).f1) ((rd_T40 x326001 x10).f2) ((rd_T40 x326001 x10).f3) ((rd_T40 x326001 x10).f4)).bind fun bt343 => ((stockaderef04_Target.f x10 ((rd_T40 x326001 x10).f0) ((rd_T40 x326001 x10).f1) ((rd_T40 x326001 x10).f2) ((rd_T40 x326001 x10).f3) ((rd_T40 x326001 x10).f4)).bind fun t351 => (if bt343.1 = 6 then (if t351 < 0 then (some (x10, 24)) else (if t351 ≥ x4 then (some (x10, 24)) else (if 0 ≤ t351 then (if t351 < (x6.length : Int) then (if rdOf false x6 t351 = true then (stockaderef04_Check.l2 k x4 x6 x7 (wrap64 (x10 + 1)) x326000 x326001) else (some (x10, 24))) else (none)) else (none)))) else (if bt343.1 = 7 then (if t351 < 0 then (some (x10, 24)) else (if t351 ≥ x4 then (some (x10, 24)) else (if 0 ≤ t351 then (if t351 < (x6.length : Int) then (if rdOf false x6 t351 = true then (stockaderef04_Check.l2 k x4 x6 x7 (wrap64 (x10 + 1)) x326000 x326001) else (some (x10, 24))) else (none)) else (none)))) else (stockaderef04_Check.l2 k x4 x6 x7 (wrap64 (x10 + 1)) x326000 x326001))))) else (none)) else (stockaderef04_Check.l2 k x4 x6 x7 (wrap64 (x10 + 1)) x326000 x326001)) else (none)) else (none)) else (if 0 ≤ x7 then (if x7 < (x326001.length : Int) then ((stockaderef02_Of.f k ((rd_T40 x326001 x7).f0) ((rd_T40 x326001 x7).f1) ((rd_T40 x326001 x7).f2) ((rd_T40 x326001 x7).f3) ((rd_T40 x326001 x7).f4)).bind fun bt334 => (if bt334.1 = 7 then (some (0, 0)) else (if bt334.1 = 9 then (some (0, 0)) else (some (x7, 25))))) else (none)) else (none))
end
def stockaderef04_Check.f (k : Nat) (l0_0 : List (S52)) (l0_1 : List (S40)) : Option (Int × Int) := if (l0_1.length : Int) = 0 then (some (0, 4)) else (if (l0_1.length : Int) > 512 then (stockaderef04_Check.j0 k (l0_1.length : Int) true l0_0 l0_1) else (stockaderef04_Check.j0 k (l0_1.length : Int) (decide ((l0_0.length : Int) > 4)) l0_0 l0_1))
theorem stockaderef04_Check.mono_l : ∀ k, (∀ y0 y1 y2 y3, LeO (stockaderef04_Check.j0 k y0 y1 y2 y3) (stockaderef04_Check.j0 (k + 1) y0 y1 y2 y3)) ∧ (∀ y0 y1 y2 y3, LeO (stockaderef04_Check.l0 k y0 y1 y2 y3) (stockaderef04_Check.l0 (k + 1) y0 y1 y2 y3)) ∧ (∀ y0 y1 y2 y3 y4 y5, LeO (stockaderef04_Check.l1 k y0 y1 y2 y3 y4 y5) (stockaderef04_Check.l1 (k + 1) y0 y1 y2 y3 y4 y5)) ∧ (∀ y0 y1 y2 y3 y4 y5, LeO (stockaderef04_Check.l2 k y0 y1 y2 y3 y4 y5) (stockaderef04_Check.l2 (k + 1) y0 y1 y2 y3 y4 y5))
 | 0 => ⟨fun _ _ _ _ r h => by simp [stockaderef04_Check.j0] at h, fun _ _ _ _ r h => by simp [stockaderef04_Check.l0] at h, fun _ _ _ _ _ _ r h => by simp [stockaderef04_Check.l1] at h, fun _ _ _ _ _ _ r h => by simp [stockaderef04_Check.l2] at h⟩
 | k + 1 => by
  obtain ⟨ih0, ih1, ih2, ih3⟩ := stockaderef04_Check.mono_l k
  refine ⟨?_, ?_, ?_, ?_⟩
  ·intro y0 y1 y2 y3
   unfold stockaderef04_Check.j0
   repeat' first
   | (with_reducible exact ih0 _ _ _ _)
   | (with_reducible exact ih1 _ _ _ _)
   | (with_reducible exact ih2 _ _ _ _ _ _)
   | (with_reducible exact ih3 _ _ _ _ _ _)
   | (with_reducible exact stockaderef02_Of.mono _ _ _ _ _ _)
   | (with_reducible exact stockaderef04_Alone.mono _ _ _ _)
   | (with_reducible exact stockaderef04_Starts.mono _ _)
   | (with_reducible exact LeO.refl _)
   | (with_reducible exact LeO.none _)
   | (with_reducible refine LeO.ite ?_ ?_)
   | (with_reducible refine LeO.bind ?_ (fun _ => ?_))
   | exact ih0 _ _ _ _
   | exact ih1 _ _ _ _
   | exact ih2 _ _ _ _ _ _
   | exact ih3 _ _ _ _ _ _
   | exact stockaderef02_Of.mono _ _ _ _ _ _
   | exact stockaderef04_Alone.mono _ _ _ _
   | exact stockaderef04_Starts.mono _ _
   | exact LeO.none _
   | refine LeO.ite ?_ ?_
   | refine LeO.bind ?_ (fun _ => ?_)
  ·intro y0 y1 y2 y3
   unfold stockaderef04_Check.l0
   repeat' first
   | (with_reducible exact ih0 _ _ _ _)
   | (with_reducible exact ih1 _ _ _ _)
   | (with_reducible exact ih2 _ _ _ _ _ _)
   | (with_reducible exact ih3 _ _ _ _ _ _)
   | (with_reducible exact stockaderef02_Of.mono _ _ _ _ _ _)
   | (with_reducible exact stockaderef04_Alone.mono _ _ _ _)
   | (with_reducible exact stockaderef04_Starts.mono _ _)
   | (with_reducible exact LeO.refl _)
   | (with_reducible exact LeO.none _)
   | (with_reducible refine LeO.ite ?_ ?_)
   | (with_reducible refine LeO.bind ?_ (fun _ => ?_))
   | exact ih0 _ _ _ _
   | exact ih1 _ _ _ _
   | exact ih2 _ _ _ _ _ _
   | exact ih3 _ _ _ _ _ _
   | exact stockaderef02_Of.mono _ _ _ _ _ _
   | exact stockaderef04_Alone.mono _ _ _ _
   | exact stockaderef04_Starts.mono _ _
   | exact LeO.none _
   | refine LeO.ite ?_ ?_
   | refine LeO.bind ?_ (fun _ => ?_)
  ·intro y0 y1 y2 y3 y4 y5
   unfold stockaderef04_Check.l1
   repeat' first
   | (with_reducible exact ih0 _ _ _ _)
   | (with_reducible exact ih1 _ _ _ _)
   | (with_reducible exact ih2 _ _ _ _ _ _)
   | (with_reducible exact ih3 _ _ _ _ _ _)
   | (with_reducible exact stockaderef02_Of.mono _ _ _ _ _ _)
   | (with_reducible exact stockaderef04_Alone.mono _ _ _ _)
   | (with_reducible exact stockaderef04_Starts.mono _ _)
   | (with_reducible exact LeO.refl _)
   | (with_reducible exact LeO.none _)
   | (with_reducible refine LeO.ite ?_ ?_)
   | (with_reducible refine LeO.bind ?_ (fun _ => ?_))
   | exact ih0 _ _ _ _
   | exact ih1 _ _ _ _
   | exact ih2 _ _ _ _ _ _
   | exact ih3 _ _ _ _ _ _
   | exact stockaderef02_Of.mono _ _ _ _ _ _
   | exact stockaderef04_Alone.mono _ _ _ _
   | exact stockaderef04_Starts.mono _ _
   | exact LeO.none _
   | refine LeO.ite ?_ ?_
   | refine LeO.bind ?_ (fun _ => ?_)
  ·intro y0 y1 y2 y3 y4 y5
   unfold stockaderef04_Check.l2
   repeat' first
   | (with_reducible exact ih0 _ _ _ _)
   | (with_reducible exact ih1 _ _ _ _)
   | (with_reducible exact ih2 _ _ _ _ _ _)
   | (with_reducible exact ih3 _ _ _ _ _ _)
   | (with_reducible exact stockaderef02_Of.mono _ _ _ _ _ _)
   | (with_reducible exact stockaderef04_Alone.mono _ _ _ _)
   | (with_reducible exact stockaderef04_Starts.mono _ _)
   | (with_reducible exact LeO.refl _)
   | (with_reducible exact LeO.none _)
   | (with_reducible refine LeO.ite ?_ ?_)
   | (with_reducible refine LeO.bind ?_ (fun _ => ?_))
   | exact ih0 _ _ _ _
   | exact ih1 _ _ _ _
   | exact ih2 _ _ _ _ _ _
   | exact ih3 _ _ _ _ _ _
   | exact stockaderef02_Of.mono _ _ _ _ _ _
   | exact stockaderef04_Alone.mono _ _ _ _
   | exact stockaderef04_Starts.mono _ _
   | exact LeO.none _
   | refine LeO.ite ?_ ?_
   | refine LeO.bind ?_ (fun _ => ?_)
theorem stockaderef04_Check.mono : ∀ a0 a1 k, LeO (stockaderef04_Check.f k a0 a1) (stockaderef04_Check.f (k + 1) a0 a1) := by
 intro a0 a1 k
 obtain ⟨ih0, ih1, ih2, ih3⟩ := stockaderef04_Check.mono_l k
 unfold stockaderef04_Check.f
 repeat' first
   | (with_reducible exact ih0 _ _ _ _)
   | (with_reducible exact ih1 _ _ _ _)
   | (with_reducible exact ih2 _ _ _ _ _ _)
   | (with_reducible exact ih3 _ _ _ _ _ _)
   | (with_reducible exact stockaderef02_Of.mono _ _ _ _ _ _)
   | (with_reducible exact stockaderef04_Alone.mono _ _ _ _)
   | (with_reducible exact stockaderef04_Starts.mono _ _)
   | (with_reducible exact LeO.refl _)
   | (with_reducible exact LeO.none _)
   | (with_reducible refine LeO.ite ?_ ?_)
   | (with_reducible refine LeO.bind ?_ (fun _ => ?_))
   | exact ih0 _ _ _ _
   | exact ih1 _ _ _ _
   | exact ih2 _ _ _ _ _ _
   | exact ih3 _ _ _ _ _ _
   | exact stockaderef02_Of.mono _ _ _ _ _ _
   | exact stockaderef04_Alone.mono _ _ _ _
   | exact stockaderef04_Starts.mono _ _
   | exact LeO.none _
   | refine LeO.ite ?_ ?_
   | refine LeO.bind ?_ (fun _ => ?_)
set_option maxHeartbeats 8000000 in
set_option maxRecDepth 100000 in
theorem stockaderef04_Check.calls (k : Nat) (A0_0 : Option Addr) (c0_0 : Nat) (l0_0 : List (S52)) (A0_1 : Option Addr) (c0_1 : Nat) (l0_1 : List (S40)) (r1 : Int) (r2 : Int) (w : World) (hr0_0 : Kd.C k52 w A0_0 l0_0.length l0_0) (hc0_0 : l0_0.length ≤ c0_0) (hr0_1 : Kd.C k40 w A0_1 l0_1.length l0_1) (hc0_1 : l0_1.length ≤ c0_1) (h : stockaderef04_Check.f k l0_0 l0_1 = some (r1, r2)) :
  Calls Tryd.prog 12 #[.agg #[.slice A0_0 l0_0.length c0_0, .slice A0_1 l0_1.length c0_1]] w fun e w' => e = .returned (.tuple #[.int .i64 r1, .int .i64 r2]) ∧ Below w.heap.size w w' := by
 have hu25 := Tryd.underlying25
 have hu52 := Tryd.underlying52
 have hu40 := Tryd.underlying40
 have hu59 := Tryd.underlying59
 have HR0_0 := Aside0.mk hr0_0
 have HC0_0 := Aside0.mk hc0_0
 clear hr0_0 hc0_0
 have HR0_1 := Aside0.mk hr0_1
 have HC0_1 := Aside0.mk hc0_1
 clear hr0_1 hc0_1
 have HB := Aside0.mk (Below.refl w.heap.size w)
 have H : (if (l0_1.length : Int) = 0 then (some (0, 4)) else (if (l0_1.length : Int) > 512 then (stockaderef04_Check.j0 k (l0_1.length : Int) true l0_0 l0_1) else (stockaderef04_Check.j0 k (l0_1.length : Int) (decide ((l0_0.length : Int) > 4)) l0_0 l0_1))) = some (r1, r2) := h
 clear h
 by_cases c2 : (l0_1.length : Int) = 0
 ·rw [if_pos c2] at H
  have c2b0 : ((l0_1.length : Int) == 0) = true := beq_iff_eq.mpr c2
  have c2b1 : ((l0_1.length : Int) != 0) = false := bne_eq_false_iff_eq.mpr c2
  clear c2
  simp only [Option.some.injEq, Prod.mk.injEq] at H
  obtain ⟨rfl, rfl⟩ := H
  go_enter Tryd.func12, Tryd.ntmps12
  go_wp2_with (first | ((with_reducible refine gate_dst (N := 1) rfl ?_); (try (refine gate_guard (by rfl) ?_; dsimp only)); refine sh_box 1 #[.slice A0_0 l0_0.length c0_0, .slice A0_1 l0_1.length c0_1] 25 ?_; intro gb325 hg w3 hbox hb; have GE325 := sh_z (w := w) hg; replace HB := sh_b (w := w) hb; have BK325 := Aside0.mk (hbox); clear hb hbox hg; have hcz4 := blk_all2 BK325.out))
  go_ret2
  exact ⟨ret_now, b_now⟩
 ·rw [if_neg c2] at H
  have c2b0 : ((l0_1.length : Int) == 0) = false := beq_eq_false_iff_ne.mpr c2
  have c2b1 : ((l0_1.length : Int) != 0) = true := bne_iff_ne.mpr c2
  have c2b2 : ¬ (l0_1 = []) := fun h_ => c2 (by rw [h_]; rfl)
  have HC5 := Aside0.mk H
  clear H
  go_enter Tryd.func12, Tryd.ntmps12
  go_upto_region 4 with (first | ((with_reducible refine gate_dst (N := 1) rfl ?_); (try (refine gate_guard (by rfl) ?_; dsimp only)); refine sh_box 1 #[.slice A0_0 l0_0.length c0_0, .slice A0_1 l0_1.length c0_1] 25 ?_; intro gb325 hg w6 hbox hb; have GE325 := sh_z (w := w) hg; replace HB := sh_b (w := w) hb; have BK325 := Aside0.mk (hbox); clear hb hbox hg; have hcz7 := blk_all2 BK325.out))
  (try simp only [Act.put, List.setIfInBounds_toArray, List.set_cons_zero, List.set_cons_succ])
  go_cut [28] (fun v28 wc => ∃ (kq : Nat) (x28_4 : Bool), v28 = .bool x28_4 ∧ Aside0 (stockaderef04_Check.j0 kq (l0_1.length : Int) x28_4 l0_0 l0_1 = some (r1, r2)) ∧ Aside0 (kq ≤ k) ∧ Aside0 (wc.heap[gb325]? = some (.cells #[(.slice A0_0 l0_0.length c0_0), (.slice A0_1 l0_1.length c0_1)] 25 (0, 0))) ∧ Aside0 (Below w.heap.size w wc))
  case first =>
   have H := HC5.out
   clear HC5
   by_cases c8 : (l0_1.length : Int) > 512
   ·rw [if_pos c8] at H
    have c8b0 : decide (512 < (l0_1.length : Int)) = true := decide_eq_true c8
    have c8b1 : decide (512 < l0_1.length) = true := decide_eq_true (by omega)
    clear c8
    (first | rw [c8b0] | (simp only [i64_w, i32_w]; rw [c8b0]) | skip)
    have H' := Aside0.mk H
    clear H
    go_wp2
    go_meet
    case rel => exact ⟨_, (true), eq_now, H', ⟨by first | omega | exact Nat.le_refl _⟩, ⟨bk_now⟩, ⟨b_now⟩⟩
   ·rw [if_neg c8] at H
    have c8b0 : decide (512 < (l0_1.length : Int)) = false := decide_eq_false c8
    have c8b1 : decide (512 < l0_1.length) = false := decide_eq_false (by omega)
    clear c8
    (first | rw [c8b0] | (simp only [i64_w, i32_w]; rw [c8b0]) | skip)
    have H' := Aside0.mk H
    clear H
    have hcz9 := blk_all2 BK325.out
    go_wp2
    go_meet
    case rel => exact ⟨_, (decide ((l0_0.length : Int) > 4)), eq_now, H', ⟨by first | omega | exact Nat.le_refl _⟩, ⟨bk_now⟩, ⟨b_now⟩⟩
  case rest =>
   clear HC5
   try clear c1
   try clear c2
   try clear c2b0
   try clear c2b1
   try clear c2b2
   try clear p2
   try clear c8
   try clear c8b0
   try clear c8b1
   try clear hcz4
   try clear hcz7
   try clear hcz9
   obtain ⟨kq, x28_4, rfl, HA, HJ4, BK325, HB⟩ := hcut
   cases kq with
   | zero => exact absurd HA.out (by simp [stockaderef04_Check.j0])
   | succ kj4 =>
    have H := HA.out
    clear HA
    simp only [stockaderef04_Check.j0] at H
    by_cases c10 : x28_4 = true
    ·subst c10
     replace H := sh_t H
     simp only [Option.some.injEq, Prod.mk.injEq] at H
     obtain ⟨rfl, rfl⟩ := H
     go_wp2
     go_ret2
     exact ⟨ret_now, b_now⟩
    ·replace c10 := Bool.eq_false_iff.mpr c10
     subst c10
     replace H := sh_f H
     have H' := Aside0.mk H
     clear H
     go_wp2
     go_loopg [5] kj4 (fun kq v5 w' => ∃ (x5_2 : Int), v5 = .int .i64 x5_2 ∧ Aside0 (stockaderef04_Check.l0 kq (l0_1.length : Int) x5_2 l0_0 l0_1 = some (r1, r2)) ∧ Aside0 (kq ≤ kj4) ∧ Aside0 (w'.heap[gb325]? = some (.cells #[(.slice A0_0 l0_0.length c0_0), (.slice A0_1 l0_1.length c0_1)] 25 (0, 0))) ∧ Aside0 (Below w.heap.size w w'))
     case atStart => exact ⟨(0), eq_now, H', ⟨Nat.le_refl _⟩, ⟨bk_now⟩, ⟨b_now⟩⟩
     case round =>
      clear H'
      try clear c1
      try clear c2
      try clear c2b0
      try clear c2b1
      try clear c2b2
      try clear p2
      try clear c8
      try clear c8b0
      try clear c8b1
      try clear c10
      try clear hcz4
      try clear hcz7
      try clear hcz9
      try clear p2
      obtain ⟨x5_2, rfl, HA, HK2, BK325, HB⟩ := hrel
      cases gk with
      | zero => exact absurd HA.out (by simp [stockaderef04_Check.l0])
      | succ k2 =>
       have H := HA.out
       clear HA
       simp only [stockaderef04_Check.l0] at H
       by_cases c11 : x5_2 < (l0_0.length : Int)
       ·rw [if_pos c11] at H
        have c11b0 : decide (x5_2 < (l0_0.length : Int)) = true := decide_eq_true c11
        clear c11
        by_cases c12 : 0 ≤ x5_2
        ·rw [if_pos c12] at H
         have c12b0 : decide (0 ≤ x5_2) = true := decide_eq_true c12
         clear c12
         replace H := Option.bind_eq_some_iff.mp H; obtain ⟨t327, A130, H⟩ := H; try dsimp only at H
         have A13 := Aside0.mk A130
         clear A130
         by_cases c14 : t327 = true
         ·subst c14
          replace H := sh_t H
          have H' := Aside0.mk H
          clear H
          have hcz15 := blk_all2 BK325.out
          have p326 : 0 ≤ (x5_2 : Int) := of_decide_eq_true (by first | (with_reducible assumption) | assumption)
          have q326 : x5_2 < (l0_0.length : Int) := of_decide_eq_true (by first | (with_reducible assumption) | assumption)
          obtain ⟨ad326, e326, hx326_0, hx326_1, hx326_2, hx326_3⟩ := at_T52 HR0_0.out x5_2 p326 q326
          cases e326
          replace hx326_0 := (HB.out.cell (World.block_lt_of_cell? w _ hx326_0)).trans hx326_0
          replace hx326_1 := (HB.out.cell (World.block_lt_of_cell? w _ hx326_1)).trans hx326_1
          replace hx326_2 := (HB.out.cell (World.block_lt_of_cell? w _ hx326_2)).trans hx326_2
          replace hx326_3 := (HB.out.cell (World.block_lt_of_cell? w _ hx326_3)).trans hx326_3
          replace p326 := eq_true p326
          replace q326 := eq_true q326
          go_wp2_with (first | ((with_reducible refine gate_callee (f := 28) rfl ?_); refine sh_call (some 41) Tryd.func28 #[.agg #[.int .i64 ((rd_T52 l0_0 x5_2).f0), .int .i64 ((rd_T52 l0_0 x5_2).f1), .int .i64 ((rd_T52 l0_0 x5_2).f2), .int .i64 ((rd_T52 l0_0 x5_2).f3)]] ?_; (with_reducible refine (stockaderef04_May.calls ((rd_T52 l0_0 x5_2).f0) ((rd_T52 l0_0 x5_2).f1) ((rd_T52 l0_0 x5_2).f2) ((rd_T52 l0_0 x5_2).f3) true _ A13.out).mono ?_); rintro e w16 ⟨rfl, hb⟩; refine ⟨_, rfl, ?_⟩; replace BK325 := sh_k BK325 hb; replace HB := sh_b (w := w) hb; (try clear hb); (try clear hb2); (try clear hk); (try clear hi)))
          go_roundg k2
          case measure => have := HJ4.out; have := HK2.out; omega
          case rel => exact ⟨(wrap64 (x5_2 + 1)), eq_now, H', ⟨by have := HJ4.out; have := HK2.out; omega⟩, ⟨bk_now⟩, ⟨b_now⟩⟩
         ·replace c14 := Bool.eq_false_iff.mpr c14
          subst c14
          replace H := sh_f H
          simp only [Option.some.injEq, Prod.mk.injEq] at H
          obtain ⟨rfl, rfl⟩ := H
          have hcz17 := blk_all2 BK325.out
          have p326 : 0 ≤ (x5_2 : Int) := of_decide_eq_true (by first | (with_reducible assumption) | assumption)
          have q326 : x5_2 < (l0_0.length : Int) := of_decide_eq_true (by first | (with_reducible assumption) | assumption)
          obtain ⟨ad326, e326, hx326_0, hx326_1, hx326_2, hx326_3⟩ := at_T52 HR0_0.out x5_2 p326 q326
          cases e326
          replace hx326_0 := (HB.out.cell (World.block_lt_of_cell? w _ hx326_0)).trans hx326_0
          replace hx326_1 := (HB.out.cell (World.block_lt_of_cell? w _ hx326_1)).trans hx326_1
          replace hx326_2 := (HB.out.cell (World.block_lt_of_cell? w _ hx326_2)).trans hx326_2
          replace hx326_3 := (HB.out.cell (World.block_lt_of_cell? w _ hx326_3)).trans hx326_3
          replace p326 := eq_true p326
          replace q326 := eq_true q326
          go_wp2_with (first | ((with_reducible refine gate_callee (f := 28) rfl ?_); refine sh_call (some 41) Tryd.func28 #[.agg #[.int .i64 ((rd_T52 l0_0 x5_2).f0), .int .i64 ((rd_T52 l0_0 x5_2).f1), .int .i64 ((rd_T52 l0_0 x5_2).f2), .int .i64 ((rd_T52 l0_0 x5_2).f3)]] ?_; (with_reducible refine (stockaderef04_May.calls ((rd_T52 l0_0 x5_2).f0) ((rd_T52 l0_0 x5_2).f1) ((rd_T52 l0_0 x5_2).f2) ((rd_T52 l0_0 x5_2).f3) false _ A13.out).mono ?_); rintro e w18 ⟨rfl, hb⟩; refine ⟨_, rfl, ?_⟩; replace BK325 := sh_k BK325 hb; replace HB := sh_b (w := w) hb; (try clear hb); (try clear hb2); (try clear hk); (try clear hi)))
          go_ret2
          exact ⟨ret_now, b_now⟩
        ·rw [if_neg c12] at H
         exact absurd H (by simp)
       ·rw [if_neg c11] at H
        have c11b0 : decide (x5_2 < (l0_0.length : Int)) = false := decide_eq_false c11
        clear c11
        replace H := Option.bind_eq_some_iff.mp H; obtain ⟨t328, A190, H⟩ := H; try dsimp only at H
        have A19 := Aside0.mk A190
        clear A190
        have H' := Aside0.mk H
        clear H
        have hcz20 := blk_all2 BK325.out
        go_wp2_with (first | ((with_reducible refine gate_callee (f := 16) rfl ?_); refine sh_call (some 46) Tryd.func16 #[.slice A0_1 l0_1.length c0_1] ?_; (with_reducible refine (stockaderef04_Starts.calls k2 _ _ l0_1 t328 _ ?side1 ?side2 A19.out).mono ?_); (case side1 => repeat (first | exact (Kd.C_below HR0_1.out HB.out) | (with_reducible refine Kd.C_alloc ?_ _) | (with_reducible refine Kd.C_drewN ?_ _) | (with_reducible refine Kd.C_drew ?_))); (case side2 => exact HC0_1.out); rintro e w21 ⟨v329, rfl, ho0, hb⟩; refine ⟨_, rfl, ?_⟩; have HO330 := Aside0.mk (Kd.R_lower ho0 (below_size b_now)); replace BK325 := sh_k BK325 hb; replace HB := sh_b (w := w) hb; (try clear hb); (try clear hb2); (try clear hk); (try clear hi); (try clear ho0)))
        go_loopg [7, 8] k2 (fun kq v7 v8 w' => ∃ (x7_3 : Int) (x8_3 : Int), v7 = .int .i64 x7_3 ∧ v8 = .int .i64 x8_3 ∧ Aside0 (stockaderef04_Check.l1 kq (l0_1.length : Int) t328 x7_3 x8_3 l0_0 l0_1 = some (r1, r2)) ∧ Aside0 (kq ≤ k2) ∧ Aside0 (Kd.R Kd.bool 4 w' w.heap.size (fun _ => True) v329 t328) ∧ Aside0 (w'.heap[gb325]? = some (.cells #[(.slice A0_0 l0_0.length c0_0), (.slice A0_1 l0_1.length c0_1)] 25 (0, 0))) ∧ Aside0 (Below w.heap.size w w'))
        case atStart => exact ⟨(0), (0), eq_now, eq_now, H', ⟨Nat.le_refl _⟩, ⟨by (with_reducible repeat (first | apply Kd.R_alloc | apply Kd.R_drewN | apply Kd.R_drew)); exact HO330.out⟩, ⟨bk_now⟩, ⟨b_now⟩⟩
        case round =>
         clear H'
         try clear c1
         try clear c2
         try clear c2b0
         try clear c2b1
         try clear c2b2
         try clear p2
         try clear p3
         try clear q3
         try clear hx3
         try clear p6
         try clear c8
         try clear c8b0
         try clear c8b1
         try clear c10
         try clear c11
         try clear c11b0
         try clear c12
         try clear c12b0
         try clear c14
         try clear c16
         try clear hcz15
         try clear hcz17
         try clear hcz20
         try clear hcz4
         try clear hcz7
         try clear hcz9
         try clear hx326_0
         try clear hx326_1
         try clear hx326_2
         try clear hx326_3
         try clear p2
         try clear p326
         try clear q326
         obtain ⟨x7_3, x8_3, rfl, rfl, HA, HK3, HO_6, BK325, HB⟩ := hrel
         cases gk with
         | zero => exact absurd HA.out (by simp [stockaderef04_Check.l1])
         | succ k3 =>
          have H := HA.out
          clear HA
          simp only [stockaderef04_Check.l1] at H
          by_cases c22 : x8_3 < (l0_1.length : Int)
          ·rw [if_pos c22] at H
           have c22b0 : decide (x8_3 < (l0_1.length : Int)) = true := decide_eq_true c22
           clear c22
           by_cases c23 : 0 ≤ x8_3
           ·rw [if_pos c23] at H
            have c23b0 : decide (0 ≤ x8_3) = true := decide_eq_true c23
            clear c23
            by_cases c24 : x8_3 < (t328.length : Int)
            ·rw [if_pos c24] at H
             have c24b0 : decide (x8_3 < (t328.length : Int)) = true := decide_eq_true c24
             clear c24
             obtain ⟨bq25, hbq25⟩ : ∃ b_ : Bool, b_ = (rdOf false t328 x8_3) := ⟨_, rfl⟩
             replace H : (if bq25 = true then ((stockaderef04_Alone.f k3 l0_0 l0_1 x8_3).bind fun t332 => (if t332 = 0 then (stockaderef04_Check.l1 k3 (l0_1.length : Int) t328 x8_3 (wrap64 (x8_3 + 1)) l0_0 l0_1) else (some (x8_3, t332)))) else (stockaderef04_Check.l1 k3 (l0_1.length : Int) t328 x7_3 (wrap64 (x8_3 + 1)) l0_0 l0_1)) = some (r1, r2) := by rw [← hbq25] at H; exact H
             have Nbq25 := Aside0.mk hbq25
             clear hbq25
             by_cases c26 : bq25 = true
             ·subst c26
              replace H := sh_t H
              replace H := Option.bind_eq_some_iff.mp H; obtain ⟨t332, A270, H⟩ := H; try dsimp only at H
              have A27 := Aside0.mk A270
              clear A270
              by_cases c28 : t332 = 0
              ·rw [if_pos c28] at H
               have c28b0 : (t332 == 0) = true := beq_iff_eq.mpr c28
               have c28b1 : (t332 != 0) = false := bne_eq_false_iff_eq.mpr c28
               clear c28
               have H' := Aside0.mk H
               clear H
               obtain ⟨Ao29, co29, eo29⟩ := Kd.R_slice HO_6.out
               subst eo29
               have p331 : 0 ≤ (x8_3 : Int) := of_decide_eq_true (by first | (with_reducible assumption) | assumption)
               have q331 : x8_3 < (t328.length : Int) := of_decide_eq_true (by first | (with_reducible assumption) | assumption)
               obtain ⟨ad331, e331, hx331_0⟩ := Kd.at_bool (Kd.R_reads' HO_6.out).2.2 x8_3 p331 q331
               (try rw [← Nbq25.out] at hx331_0)
               cases e331
               replace p331 := eq_true p331
               replace q331 := eq_true q331
               have hcz30 := blk_all2 BK325.out
               go_wp2_with (first | ((with_reducible refine gate_callee (f := 29) rfl ?_); refine sh_call (some 59) Tryd.func29 #[.agg #[.slice A0_0 l0_0.length c0_0, .slice A0_1 l0_1.length c0_1], .int .i64 x8_3] ?_; (with_reducible refine (stockaderef04_Alone.calls k3 _ _ l0_0 _ _ l0_1 x8_3 t332 _ ?side1 ?side2 ?side3 ?side4 A27.out).mono ?_); (case side1 => repeat (first | exact (Kd.C_below HR0_0.out HB.out) | (with_reducible refine Kd.C_alloc ?_ _) | (with_reducible refine Kd.C_drewN ?_ _) | (with_reducible refine Kd.C_drew ?_))); (case side2 => exact HC0_0.out); (case side3 => repeat (first | exact (Kd.C_below HR0_1.out HB.out) | (with_reducible refine Kd.C_alloc ?_ _) | (with_reducible refine Kd.C_drewN ?_ _) | (with_reducible refine Kd.C_drew ?_))); (case side4 => exact HC0_1.out); rintro e w31 ⟨rfl, hb⟩; refine ⟨_, rfl, ?_⟩; replace HO_6 := Aside0.mk (Kd.R_below (by (with_reducible repeat (first | apply Kd.R_alloc | apply Kd.R_drewN | apply Kd.R_drew)); exact HO_6.out) hb); replace BK325 := sh_k BK325 hb; replace HB := sh_b (w := w) hb; (try clear hb); (try clear hb2); (try clear hk); (try clear hi)))
               go_roundg k3
               case measure => have := HJ4.out; have := HK2.out; have := HK3.out; omega
               case rel => exact ⟨(x8_3), (wrap64 (x8_3 + 1)), eq_now, eq_now, H', ⟨by have := HJ4.out; have := HK2.out; have := HK3.out; omega⟩, ⟨by (with_reducible repeat (first | apply Kd.R_alloc | apply Kd.R_drewN | apply Kd.R_drew)); exact HO_6.out⟩, ⟨bk_now⟩, ⟨b_now⟩⟩
              ·rw [if_neg c28] at H
               have c28b0 : (t332 == 0) = false := beq_eq_false_iff_ne.mpr c28
               have c28b1 : (t332 != 0) = true := bne_iff_ne.mpr c28
               simp only [Option.some.injEq, Prod.mk.injEq] at H
               obtain ⟨rfl, rfl⟩ := H
               obtain ⟨Ao32, co32, eo32⟩ := Kd.R_slice HO_6.out
               subst eo32
               have p331 : 0 ≤ (x8_3 : Int) := of_decide_eq_true (by first | (with_reducible assumption) | assumption)
               have q331 : x8_3 < (t328.length : Int) := of_decide_eq_true (by first | (with_reducible assumption) | assumption)
               obtain ⟨ad331, e331, hx331_0⟩ := Kd.at_bool (Kd.R_reads' HO_6.out).2.2 x8_3 p331 q331
               (try rw [← Nbq25.out] at hx331_0)
               cases e331
               replace p331 := eq_true p331
               replace q331 := eq_true q331
               have hcz33 := blk_all2 BK325.out
               go_wp2_with (first | ((with_reducible refine gate_callee (f := 29) rfl ?_); refine sh_call (some 59) Tryd.func29 #[.agg #[.slice A0_0 l0_0.length c0_0, .slice A0_1 l0_1.length c0_1], .int .i64 x8_3] ?_; (with_reducible refine (stockaderef04_Alone.calls k3 _ _ l0_0 _ _ l0_1 x8_3 t332 _ ?side1 ?side2 ?side3 ?side4 A27.out).mono ?_); (case side1 => repeat (first | exact (Kd.C_below HR0_0.out HB.out) | (with_reducible refine Kd.C_alloc ?_ _) | (with_reducible refine Kd.C_drewN ?_ _) | (with_reducible refine Kd.C_drew ?_))); (case side2 => exact HC0_0.out); (case side3 => repeat (first | exact (Kd.C_below HR0_1.out HB.out) | (with_reducible refine Kd.C_alloc ?_ _) | (with_reducible refine Kd.C_drewN ?_ _) | (with_reducible refine Kd.C_drew ?_))); (case side4 => exact HC0_1.out); rintro e w34 ⟨rfl, hb⟩; refine ⟨_, rfl, ?_⟩; replace HO_6 := Aside0.mk (Kd.R_below (by (with_reducible repeat (first | apply Kd.R_alloc | apply Kd.R_drewN | apply Kd.R_drew)); exact HO_6.out) hb); replace BK325 := sh_k BK325 hb; replace HB := sh_b (w := w) hb; (try clear hb); (try clear hb2); (try clear hk); (try clear hi)))
               go_ret2
               exact ⟨ret_now, b_now⟩
             ·replace c26 := Bool.eq_false_iff.mpr c26
              subst c26
              replace H := sh_f H
              have H' := Aside0.mk H
              clear H
              obtain ⟨Ao35, co35, eo35⟩ := Kd.R_slice HO_6.out
              subst eo35
              have p331 : 0 ≤ (x8_3 : Int) := of_decide_eq_true (by first | (with_reducible assumption) | assumption)
              have q331 : x8_3 < (t328.length : Int) := of_decide_eq_true (by first | (with_reducible assumption) | assumption)
              obtain ⟨ad331, e331, hx331_0⟩ := Kd.at_bool (Kd.R_reads' HO_6.out).2.2 x8_3 p331 q331
              (try rw [← Nbq25.out] at hx331_0)
              cases e331
              replace p331 := eq_true p331
              replace q331 := eq_true q331
              go_wp2
              go_roundg k3
              case measure => have := HJ4.out; have := HK2.out; have := HK3.out; omega
              case rel => exact ⟨(x7_3), (wrap64 (x8_3 + 1)), eq_now, eq_now, H', ⟨by have := HJ4.out; have := HK2.out; have := HK3.out; omega⟩, ⟨by (with_reducible repeat (first | apply Kd.R_alloc | apply Kd.R_drewN | apply Kd.R_drew)); exact HO_6.out⟩, ⟨bk_now⟩, ⟨b_now⟩⟩
            ·rw [if_neg c24] at H
             exact absurd H (by simp)
           ·rw [if_neg c23] at H
            exact absurd H (by simp)
          ·rw [if_neg c22] at H
           have c22b0 : decide (x8_3 < (l0_1.length : Int)) = false := decide_eq_false c22
           clear c22
           have H' := Aside0.mk H
           clear H
           go_wp2
           go_loopg [10] k3 (fun kq v10 w' => ∃ (x10_4 : Int), v10 = .int .i64 x10_4 ∧ Aside0 (stockaderef04_Check.l2 kq (l0_1.length : Int) t328 x7_3 x10_4 l0_0 l0_1 = some (r1, r2)) ∧ Aside0 (kq ≤ k3) ∧ Aside0 (Kd.R Kd.bool 4 w' w.heap.size (fun _ => True) v329 t328) ∧ Aside0 (w'.heap[gb325]? = some (.cells #[(.slice A0_0 l0_0.length c0_0), (.slice A0_1 l0_1.length c0_1)] 25 (0, 0))) ∧ Aside0 (Below w.heap.size w w'))
           case atStart => exact ⟨(0), eq_now, H', ⟨Nat.le_refl _⟩, ⟨by (with_reducible repeat (first | apply Kd.R_alloc | apply Kd.R_drewN | apply Kd.R_drew)); exact HO_6.out⟩, ⟨bk_now⟩, ⟨b_now⟩⟩
           case round =>
            clear H'
            try clear c1
            try clear c2
            try clear c2b0
            try clear c2b1
            try clear c2b2
            try clear p2
            try clear q2
            try clear p3
            try clear q3
            try clear hx3
            try clear p6
            try clear c8
            try clear c8b0
            try clear c8b1
            try clear c10
            try clear c11
            try clear c11b0
            try clear c12
            try clear c12b0
            try clear c14
            try clear c16
            try clear c22
            try clear c22b0
            try clear c23
            try clear c23b0
            try clear c24
            try clear c24b0
            try clear q25
            try clear c26
            try clear c28
            try clear c28b0
            try clear c28b1
            try clear c29
            try clear p32
            try clear q32
            try clear hx32
            try clear p33
            try clear q33
            try clear hx33
            try clear hcz15
            try clear hcz17
            try clear hcz20
            try clear hcz30
            try clear hcz33
            try clear hcz4
            try clear hcz7
            try clear hcz9
            try clear hx326_0
            try clear hx326_1
            try clear hx326_2
            try clear hx326_3
            try clear hx331_0
            try clear p2
            try clear p3
            try clear p326
            try clear p331
            try clear p6
            try clear q3
            try clear q326
            try clear q331
            obtain ⟨x10_4, rfl, HA, HK4, HO_6, BK325, HB⟩ := hrel
            cases gk with
            | zero => exact absurd HA.out (by simp [stockaderef04_Check.l2])
            | succ k4 =>
             have H := HA.out
             clear HA
             simp only [stockaderef04_Check.l2] at H
             by_cases c36 : x10_4 < (l0_1.length : Int)
             ·rw [if_pos c36] at H
              have c36b0 : decide (x10_4 < (l0_1.length : Int)) = true := decide_eq_true c36
              clear c36
              by_cases c37 : 0 ≤ x10_4
              ·rw [if_pos c37] at H
               have c37b0 : decide (0 ≤ x10_4) = true := decide_eq_true c37
               clear c37
               by_cases c38 : x10_4 < (t328.length : Int)
               ·rw [if_pos c38] at H
                have c38b0 : decide (x10_4 < (t328.length : Int)) = true := decide_eq_true c38
                clear c38
                obtain ⟨bq39, hbq39⟩ : ∃ b_ : Bool, b_ = (rdOf false t328 x10_4) := ⟨_, rfl⟩
                replace H : (if bq39 = true then (if x10_4 < (l0_1.length : Int) then ((stockaderef02_Of.f k4 ((rd_T40 l0_1 x10_4).f0) ((rd_T40 l0_1 x10_4).f1) ((rd_T40 l0_1 x10_4).f2) ((rd_T40 l0_1 x10_4).f3) ((rd_T40 l0_1 x10_4).f4)).bind fun bt343 => ((stockaderef04_Target.f x10_4 ((rd_T40 l0_1 x10_4).f0) ((rd_T40 l0_1 x10_4).f1) ((rd_T40 l0_1 x10_4).f2) ((rd_T40 l0_1 x10_4).f3) ((rd_T40 l0_1 x10_4).f4)).bind fun t351 => (if bt343.1 = 6 then (if t351 < 0 then (some (x10_4, 24)) else (if t351 ≥ (l0_1.length : Int) then (some (x10_4, 24)) else (if 0 ≤ t351 then (if t351 < (t328.length : Int) then (if rdOf false t328 t351 = true then (stockaderef04_Check.l2 k4 (l0_1.length : Int) t328 x7_3 (wrap64 (x10_4 + 1)) l0_0 l0_1) else (some (x10_4, 24))) else (none)) else (none)))) else (if bt343.1 = 7 then (if t351 < 0 then (some (x10_4, 24)) else (if t351 ≥ (l0_1.length : Int) then (some (x10_4, 24)) else (if 0 ≤ t351 then (if t351 < (t328.length : Int) then (if rdOf false t328 t351 = true then (stockaderef04_Check.l2 k4 (l0_1.length : Int) t328 x7_3 (wrap64 (x10_4 + 1)) l0_0 l0_1) else (some (x10_4, 24))) else (none)) else (none)))) else (stockaderef04_Check.l2 k4 (l0_1.length : Int) t328 x7_3 (wrap64 (x10_4 + 1)) l0_0 l0_1))))) else (none)) else (stockaderef04_Check.l2 k4 (l0_1.length : Int) t328 x7_3 (wrap64 (x10_4 + 1)) l0_0 l0_1)) = some (r1, r2) := by rw [← hbq39] at H; exact H
                have Nbq39 := Aside0.mk hbq39
                clear hbq39
                by_cases c40 : bq39 = true
                ·subst c40
                 replace H := sh_t H
                 by_cases c41 : x10_4 < (l0_1.length : Int)
                 ·rw [if_pos c41] at H
                  have c41b0 : decide (x10_4 < (l0_1.length : Int)) = true := decide_eq_true c41
                  clear c41
                  replace H := Option.bind_eq_some_iff.mp H; obtain ⟨⟨t343, t344, t345, t346, t347, t348⟩, A420, H⟩ := H; try dsimp only at H
                  have A42 := Aside0.mk A420
                  clear A420
                  replace H := Option.bind_eq_some_iff.mp H; obtain ⟨t351, A430, H⟩ := H; try dsimp only at H
                  have A43 := Aside0.mk A430
                  clear A430
                  by_cases c44 : t343 = 6
                  ·rw [if_pos c44] at H
                   have c44b0 : (t343 == 6) = true := beq_iff_eq.mpr c44
                   have c44b1 : (t343 != 6) = false := bne_eq_false_iff_eq.mpr c44
                   clear c44
                   by_cases c45 : t351 < 0
                   ·rw [if_pos c45] at H
                    have c45b0 : decide (t351 < 0) = true := decide_eq_true c45
                    clear c45
                    simp only [Option.some.injEq, Prod.mk.injEq] at H
                    obtain ⟨rfl, rfl⟩ := H
                    obtain ⟨Ao46, co46, eo46⟩ := Kd.R_slice HO_6.out
                    subst eo46
                    have p341 : 0 ≤ (x10_4 : Int) := of_decide_eq_true (by first | (with_reducible assumption) | assumption)
                    have q341 : x10_4 < (t328.length : Int) := of_decide_eq_true (by first | (with_reducible assumption) | assumption)
                    obtain ⟨ad341, e341, hx341_0⟩ := Kd.at_bool (Kd.R_reads' HO_6.out).2.2 x10_4 p341 q341
                    (try rw [← Nbq39.out] at hx341_0)
                    cases e341
                    replace p341 := eq_true p341
                    replace q341 := eq_true q341
                    have hcz47 := blk_all2 BK325.out
                    have p342 : 0 ≤ (x10_4 : Int) := of_decide_eq_true (by first | (with_reducible assumption) | assumption)
                    have q342 : x10_4 < (l0_1.length : Int) := of_decide_eq_true (by first | (with_reducible assumption) | assumption)
                    obtain ⟨ad342, e342, hx342_0, hx342_1, hx342_2, hx342_3, hx342_4⟩ := at_T40 HR0_1.out x10_4 p342 q342
                    cases e342
                    replace hx342_0 := (HB.out.cell (World.block_lt_of_cell? w _ hx342_0)).trans hx342_0
                    replace hx342_1 := (HB.out.cell (World.block_lt_of_cell? w _ hx342_1)).trans hx342_1
                    replace hx342_2 := (HB.out.cell (World.block_lt_of_cell? w _ hx342_2)).trans hx342_2
                    replace hx342_3 := (HB.out.cell (World.block_lt_of_cell? w _ hx342_3)).trans hx342_3
                    replace hx342_4 := (HB.out.cell (World.block_lt_of_cell? w _ hx342_4)).trans hx342_4
                    replace p342 := eq_true p342
                    replace q342 := eq_true q342
                    go_wp2_with (first | ((with_reducible refine gate_callee (f := 30) rfl ?_); refine sh_call (some 81) Tryd.func30 #[.agg #[.int .u8 ((rd_T40 l0_1 x10_4).f0), .int .u8 ((rd_T40 l0_1 x10_4).f1), .int .u8 ((rd_T40 l0_1 x10_4).f2), .int .i16 ((rd_T40 l0_1 x10_4).f3), .int .i32 ((rd_T40 l0_1 x10_4).f4)]] ?_; (with_reducible refine (stockaderef02_Of.calls k4 ((rd_T40 l0_1 x10_4).f0) ((rd_T40 l0_1 x10_4).f1) ((rd_T40 l0_1 x10_4).f2) ((rd_T40 l0_1 x10_4).f3) ((rd_T40 l0_1 x10_4).f4) t343 t344 t345 t346 t347 t348 _ A42.out).mono ?_); rintro e w48 ⟨rfl, hb⟩; refine ⟨_, rfl, ?_⟩; replace HO_6 := Aside0.mk (Kd.R_below (by (with_reducible repeat (first | apply Kd.R_alloc | apply Kd.R_drewN | apply Kd.R_drew)); exact HO_6.out) hb); replace BK325 := sh_k BK325 hb; replace HB := sh_b (w := w) hb; (try clear hb); (try clear hb2); (try clear hk); (try clear hi)) | ((with_reducible refine gate_dst (N := 11) rfl ?_); (try (refine gate_guard (by rfl) ?_; dsimp only)); refine sh_box 11 #[.int .i64 0, .int .i64 0, .int .i64 0, .bool false, .bool false] 59 ?_; intro gb349 hg w49 hbox hb; have GW349 := sh_z (w := w) hg; have GE349 := sh_z (w := w) hg; have NB325_349 := sh_n BK325 hg; have NB349_325 := sh_s NB325_349; replace HO_6 := Aside0.mk (Kd.R_below (by (with_reducible repeat (first | apply Kd.R_alloc | apply Kd.R_drewN | apply Kd.R_drew)); exact HO_6.out) hb); replace BK325 := sh_k BK325 hb; replace HB := sh_b (w := w) hb; have BK349 := Aside0.mk (hbox); clear hb hbox hg; have hnb50 := NB349_325.out; have hnc50 := NB325_349.out; have hcz51 := blk_all5 BK349.out; have hcz52 := blk_all2 BK325.out; have p350 : 0 ≤ (x10_4 : Int) := of_decide_eq_true (by first | (with_reducible assumption) | assumption); have q350 : x10_4 < (l0_1.length : Int) := of_decide_eq_true (by first | (with_reducible assumption) | assumption); obtain ⟨ad350, e350, hx350_0, hx350_1, hx350_2, hx350_3, hx350_4⟩ := at_T40 HR0_1.out x10_4 p350 q350; obtain rfl : ad342 = ad350 := (by injection e350); have hn350_0 : ad342.block ≠ gb349 := Nat.ne_of_lt (Nat.lt_of_lt_of_le (by have := World.block_lt_of_cell? _ _ hx350_0; first | rwa [add_block] at this | exact this) GW349.out); have hn350_1 : ad342.block ≠ gb349 := Nat.ne_of_lt (Nat.lt_of_lt_of_le (by have := World.block_lt_of_cell? _ _ hx350_0; first | rwa [add_block] at this | exact this) GW349.out); have hn350_2 : ad342.block ≠ gb349 := Nat.ne_of_lt (Nat.lt_of_lt_of_le (by have := World.block_lt_of_cell? _ _ hx350_0; first | rwa [add_block] at this | exact this) GW349.out); have hn350_3 : ad342.block ≠ gb349 := Nat.ne_of_lt (Nat.lt_of_lt_of_le (by have := World.block_lt_of_cell? _ _ hx350_0; first | rwa [add_block] at this | exact this) GW349.out); have hn350_4 : ad342.block ≠ gb349 := Nat.ne_of_lt (Nat.lt_of_lt_of_le (by have := World.block_lt_of_cell? _ _ hx350_0; first | rwa [add_block] at this | exact this) GW349.out); replace hx350_0 := (HB.out.cell (World.block_lt_of_cell? w _ hx350_0)).trans hx350_0; replace hx350_1 := (HB.out.cell (World.block_lt_of_cell? w _ hx350_1)).trans hx350_1; replace hx350_2 := (HB.out.cell (World.block_lt_of_cell? w _ hx350_2)).trans hx350_2; replace hx350_3 := (HB.out.cell (World.block_lt_of_cell? w _ hx350_3)).trans hx350_3; replace hx350_4 := (HB.out.cell (World.block_lt_of_cell? w _ hx350_4)).trans hx350_4; replace hx350_0 := (cell_far (p := ⟨gb349, 0, none⟩) (by first | (rw [add_block]; exact hn350_0) | (show (Addr.add _ _).block ≠ _; rw [add_block]; exact hn350_0) | exact hn350_0) (.int .i64 t343)).trans hx350_0; replace hx350_1 := (cell_far (p := ⟨gb349, 0, none⟩) (by first | (rw [add_block]; exact hn350_0) | (show (Addr.add _ _).block ≠ _; rw [add_block]; exact hn350_0) | exact hn350_0) (.int .i64 t343)).trans hx350_1; replace hx350_2 := (cell_far (p := ⟨gb349, 0, none⟩) (by first | (rw [add_block]; exact hn350_0) | (show (Addr.add _ _).block ≠ _; rw [add_block]; exact hn350_0) | exact hn350_0) (.int .i64 t343)).trans hx350_2; replace hx350_3 := (cell_far (p := ⟨gb349, 0, none⟩) (by first | (rw [add_block]; exact hn350_0) | (show (Addr.add _ _).block ≠ _; rw [add_block]; exact hn350_0) | exact hn350_0) (.int .i64 t343)).trans hx350_3; replace hx350_4 := (cell_far (p := ⟨gb349, 0, none⟩) (by first | (rw [add_block]; exact hn350_0) | (show (Addr.add _ _).block ≠ _; rw [add_block]; exact hn350_0) | exact hn350_0) (.int .i64 t343)).trans hx350_4; replace hx350_0 := (cell_far (p := ⟨gb349, 1, none⟩) (by first | (rw [add_block]; exact hn350_1) | (show (Addr.add _ _).block ≠ _; rw [add_block]; exact hn350_1) | exact hn350_1) (.int .i64 t344)).trans hx350_0; replace hx350_1 := (cell_far (p := ⟨gb349, 1, none⟩) (by first | (rw [add_block]; exact hn350_1) | (show (Addr.add _ _).block ≠ _; rw [add_block]; exact hn350_1) | exact hn350_1) (.int .i64 t344)).trans hx350_1; replace hx350_2 := (cell_far (p := ⟨gb349, 1, none⟩) (by first | (rw [add_block]; exact hn350_1) | (show (Addr.add _ _).block ≠ _; rw [add_block]; exact hn350_1) | exact hn350_1) (.int .i64 t344)).trans hx350_2; replace hx350_3 := (cell_far (p := ⟨gb349, 1, none⟩) (by first | (rw [add_block]; exact hn350_1) | (show (Addr.add _ _).block ≠ _; rw [add_block]; exact hn350_1) | exact hn350_1) (.int .i64 t344)).trans hx350_3; replace hx350_4 := (cell_far (p := ⟨gb349, 1, none⟩) (by first | (rw [add_block]; exact hn350_1) | (show (Addr.add _ _).block ≠ _; rw [add_block]; exact hn350_1) | exact hn350_1) (.int .i64 t344)).trans hx350_4; replace hx350_0 := (cell_far (p := ⟨gb349, 2, none⟩) (by first | (rw [add_block]; exact hn350_2) | (show (Addr.add _ _).block ≠ _; rw [add_block]; exact hn350_2) | exact hn350_2) (.int .i64 t345)).trans hx350_0; replace hx350_1 := (cell_far (p := ⟨gb349, 2, none⟩) (by first | (rw [add_block]; exact hn350_2) | (show (Addr.add _ _).block ≠ _; rw [add_block]; exact hn350_2) | exact hn350_2) (.int .i64 t345)).trans hx350_1; replace hx350_2 := (cell_far (p := ⟨gb349, 2, none⟩) (by first | (rw [add_block]; exact hn350_2) | (show (Addr.add _ _).block ≠ _; rw [add_block]; exact hn350_2) | exact hn350_2) (.int .i64 t345)).trans hx350_2; replace hx350_3 := (cell_far (p := ⟨gb349, 2, none⟩) (by first | (rw [add_block]; exact hn350_2) | (show (Addr.add _ _).block ≠ _; rw [add_block]; exact hn350_2) | exact hn350_2) (.int .i64 t345)).trans hx350_3; replace hx350_4 := (cell_far (p := ⟨gb349, 2, none⟩) (by first | (rw [add_block]; exact hn350_2) | (show (Addr.add _ _).block ≠ _; rw [add_block]; exact hn350_2) | exact hn350_2) (.int .i64 t345)).trans hx350_4; replace hx350_0 := (cell_far (p := ⟨gb349, 3, none⟩) (by first | (rw [add_block]; exact hn350_3) | (show (Addr.add _ _).block ≠ _; rw [add_block]; exact hn350_3) | exact hn350_3) (.bool t346)).trans hx350_0; replace hx350_1 := (cell_far (p := ⟨gb349, 3, none⟩) (by first | (rw [add_block]; exact hn350_3) | (show (Addr.add _ _).block ≠ _; rw [add_block]; exact hn350_3) | exact hn350_3) (.bool t346)).trans hx350_1; replace hx350_2 := (cell_far (p := ⟨gb349, 3, none⟩) (by first | (rw [add_block]; exact hn350_3) | (show (Addr.add _ _).block ≠ _; rw [add_block]; exact hn350_3) | exact hn350_3) (.bool t346)).trans hx350_2; replace hx350_3 := (cell_far (p := ⟨gb349, 3, none⟩) (by first | (rw [add_block]; exact hn350_3) | (show (Addr.add _ _).block ≠ _; rw [add_block]; exact hn350_3) | exact hn350_3) (.bool t346)).trans hx350_3; replace hx350_4 := (cell_far (p := ⟨gb349, 3, none⟩) (by first | (rw [add_block]; exact hn350_3) | (show (Addr.add _ _).block ≠ _; rw [add_block]; exact hn350_3) | exact hn350_3) (.bool t346)).trans hx350_4; replace hx350_0 := (cell_far (p := ⟨gb349, 4, none⟩) (by first | (rw [add_block]; exact hn350_4) | (show (Addr.add _ _).block ≠ _; rw [add_block]; exact hn350_4) | exact hn350_4) (.bool t347)).trans hx350_0; replace hx350_1 := (cell_far (p := ⟨gb349, 4, none⟩) (by first | (rw [add_block]; exact hn350_4) | (show (Addr.add _ _).block ≠ _; rw [add_block]; exact hn350_4) | exact hn350_4) (.bool t347)).trans hx350_1; replace hx350_2 := (cell_far (p := ⟨gb349, 4, none⟩) (by first | (rw [add_block]; exact hn350_4) | (show (Addr.add _ _).block ≠ _; rw [add_block]; exact hn350_4) | exact hn350_4) (.bool t347)).trans hx350_2; replace hx350_3 := (cell_far (p := ⟨gb349, 4, none⟩) (by first | (rw [add_block]; exact hn350_4) | (show (Addr.add _ _).block ≠ _; rw [add_block]; exact hn350_4) | exact hn350_4) (.bool t347)).trans hx350_3; replace hx350_4 := (cell_far (p := ⟨gb349, 4, none⟩) (by first | (rw [add_block]; exact hn350_4) | (show (Addr.add _ _).block ≠ _; rw [add_block]; exact hn350_4) | exact hn350_4) (.bool t347)).trans hx350_4; clear hn350_0; clear hn350_1; clear hn350_2; clear hn350_3; clear hn350_4; replace p350 := eq_true p350; replace q350 := eq_true q350) | ((with_reducible refine gate_callee (f := 20) rfl ?_); refine sh_call (some 90) Tryd.func20 #[.int .i64 x10_4, .agg #[.int .u8 ((rd_T40 l0_1 x10_4).f0), .int .u8 ((rd_T40 l0_1 x10_4).f1), .int .u8 ((rd_T40 l0_1 x10_4).f2), .int .i16 ((rd_T40 l0_1 x10_4).f3), .int .i32 ((rd_T40 l0_1 x10_4).f4)]] ?_; (with_reducible refine (stockaderef04_Target.calls x10_4 ((rd_T40 l0_1 x10_4).f0) ((rd_T40 l0_1 x10_4).f1) ((rd_T40 l0_1 x10_4).f2) ((rd_T40 l0_1 x10_4).f3) ((rd_T40 l0_1 x10_4).f4) t351 _ A43.out).mono ?_); rintro e w53 ⟨rfl, hb⟩; refine ⟨_, rfl, ?_⟩; replace HO_6 := Aside0.mk (Kd.R_below (by (with_reducible repeat (first | apply Kd.R_alloc | apply Kd.R_drewN | apply Kd.R_drew)); exact (Kd.R_mono (Kd.R_far (p := ⟨gb349, 4, none⟩) (Kd.R_far (p := ⟨gb349, 3, none⟩) (Kd.R_far (p := ⟨gb349, 2, none⟩) (Kd.R_far (p := ⟨gb349, 1, none⟩) (Kd.R_far (p := ⟨gb349, 0, none⟩) (Kd.R_types HO_6.out BK349.out (by decide)) (fun _ hk => hk.2) (.int .i64 t343)) (fun _ hk => hk.2) (.int .i64 t344)) (fun _ hk => hk.2) (.int .i64 t345)) (fun _ hk => hk.2) (.bool t346)) (fun _ hk => hk.2) (.bool t347)) (fun _ h_ => h_.1))) hb); replace BK325 := sh_kp (g := gb325) (t := 25) #[.slice A0_0 l0_0.length c0_0, .slice (some ad342) l0_1.length c0_1] hb; replace BK349 := sh_kp (g := gb349) (t := 59) #[.int .i64 t343, .int .i64 t344, .int .i64 t345, .bool t346, .bool t347] hb; replace HB := sh_b (w := w) hb; (try clear hb); (try clear hb2); (try clear hk); (try clear hi); have hcz54 := blk_all5 BK349.out))
                    go_ret2
                    exact ⟨ret_now, b_now⟩
                   ·rw [if_neg c45] at H
                    have c45b0 : decide (t351 < 0) = false := decide_eq_false c45
                    clear c45
                    by_cases c55 : t351 ≥ (l0_1.length : Int)
                    ·rw [if_pos c55] at H
                     have c55b0 : decide ((l0_1.length : Int) ≤ t351) = true := decide_eq_true c55
                     clear c55
                     simp only [Option.some.injEq, Prod.mk.injEq] at H
                     obtain ⟨rfl, rfl⟩ := H
                     obtain ⟨Ao56, co56, eo56⟩ := Kd.R_slice HO_6.out
                     subst eo56
                     have p341 : 0 ≤ (x10_4 : Int) := of_decide_eq_true (by first | (with_reducible assumption) | assumption)
                     have q341 : x10_4 < (t328.length : Int) := of_decide_eq_true (by first | (with_reducible assumption) | assumption)
                     obtain ⟨ad341, e341, hx341_0⟩ := Kd.at_bool (Kd.R_reads' HO_6.out).2.2 x10_4 p341 q341
                     (try rw [← Nbq39.out] at hx341_0)
                     cases e341
                     replace p341 := eq_true p341
                     replace q341 := eq_true q341
                     have hcz57 := blk_all2 BK325.out
                     have p342 : 0 ≤ (x10_4 : Int) := of_decide_eq_true (by first | (with_reducible assumption) | assumption)
                     have q342 : x10_4 < (l0_1.length : Int) := of_decide_eq_true (by first | (with_reducible assumption) | assumption)
                     obtain ⟨ad342, e342, hx342_0, hx342_1, hx342_2, hx342_3, hx342_4⟩ := at_T40 HR0_1.out x10_4 p342 q342
                     cases e342
                     replace hx342_0 := (HB.out.cell (World.block_lt_of_cell? w _ hx342_0)).trans hx342_0
                     replace hx342_1 := (HB.out.cell (World.block_lt_of_cell? w _ hx342_1)).trans hx342_1
                     replace hx342_2 := (HB.out.cell (World.block_lt_of_cell? w _ hx342_2)).trans hx342_2
                     replace hx342_3 := (HB.out.cell (World.block_lt_of_cell? w _ hx342_3)).trans hx342_3
                     replace hx342_4 := (HB.out.cell (World.block_lt_of_cell? w _ hx342_4)).trans hx342_4
                     replace p342 := eq_true p342
                     replace q342 := eq_true q342
                     go_wp2_with (first | ((with_reducible refine gate_callee (f := 30) rfl ?_); refine sh_call (some 81) Tryd.func30 #[.agg #[.int .u8 ((rd_T40 l0_1 x10_4).f0), .int .u8 ((rd_T40 l0_1 x10_4).f1), .int .u8 ((rd_T40 l0_1 x10_4).f2), .int .i16 ((rd_T40 l0_1 x10_4).f3), .int .i32 ((rd_T40 l0_1 x10_4).f4)]] ?_; (with_reducible refine (stockaderef02_Of.calls k4 ((rd_T40 l0_1 x10_4).f0) ((rd_T40 l0_1 x10_4).f1) ((rd_T40 l0_1 x10_4).f2) ((rd_T40 l0_1 x10_4).f3) ((rd_T40 l0_1 x10_4).f4) t343 t344 t345 t346 t347 t348 _ A42.out).mono ?_); rintro e w58 ⟨rfl, hb⟩; refine ⟨_, rfl, ?_⟩; replace HO_6 := Aside0.mk (Kd.R_below (by (with_reducible repeat (first | apply Kd.R_alloc | apply Kd.R_drewN | apply Kd.R_drew)); exact HO_6.out) hb); replace BK325 := sh_k BK325 hb; replace HB := sh_b (w := w) hb; (try clear hb); (try clear hb2); (try clear hk); (try clear hi)) | ((with_reducible refine gate_dst (N := 11) rfl ?_); (try (refine gate_guard (by rfl) ?_; dsimp only)); refine sh_box 11 #[.int .i64 0, .int .i64 0, .int .i64 0, .bool false, .bool false] 59 ?_; intro gb349 hg w59 hbox hb; have GW349 := sh_z (w := w) hg; have GE349 := sh_z (w := w) hg; have NB325_349 := sh_n BK325 hg; have NB349_325 := sh_s NB325_349; replace HO_6 := Aside0.mk (Kd.R_below (by (with_reducible repeat (first | apply Kd.R_alloc | apply Kd.R_drewN | apply Kd.R_drew)); exact HO_6.out) hb); replace BK325 := sh_k BK325 hb; replace HB := sh_b (w := w) hb; have BK349 := Aside0.mk (hbox); clear hb hbox hg; have hnb60 := NB349_325.out; have hnc60 := NB325_349.out; have hcz61 := blk_all5 BK349.out; have hcz62 := blk_all2 BK325.out; have p350 : 0 ≤ (x10_4 : Int) := of_decide_eq_true (by first | (with_reducible assumption) | assumption); have q350 : x10_4 < (l0_1.length : Int) := of_decide_eq_true (by first | (with_reducible assumption) | assumption); obtain ⟨ad350, e350, hx350_0, hx350_1, hx350_2, hx350_3, hx350_4⟩ := at_T40 HR0_1.out x10_4 p350 q350; obtain rfl : ad342 = ad350 := (by injection e350); have hn350_0 : ad342.block ≠ gb349 := Nat.ne_of_lt (Nat.lt_of_lt_of_le (by have := World.block_lt_of_cell? _ _ hx350_0; first | rwa [add_block] at this | exact this) GW349.out); have hn350_1 : ad342.block ≠ gb349 := Nat.ne_of_lt (Nat.lt_of_lt_of_le (by have := World.block_lt_of_cell? _ _ hx350_0; first | rwa [add_block] at this | exact this) GW349.out); have hn350_2 : ad342.block ≠ gb349 := Nat.ne_of_lt (Nat.lt_of_lt_of_le (by have := World.block_lt_of_cell? _ _ hx350_0; first | rwa [add_block] at this | exact this) GW349.out); have hn350_3 : ad342.block ≠ gb349 := Nat.ne_of_lt (Nat.lt_of_lt_of_le (by have := World.block_lt_of_cell? _ _ hx350_0; first | rwa [add_block] at this | exact this) GW349.out); have hn350_4 : ad342.block ≠ gb349 := Nat.ne_of_lt (Nat.lt_of_lt_of_le (by have := World.block_lt_of_cell? _ _ hx350_0; first | rwa [add_block] at this | exact this) GW349.out); replace hx350_0 := (HB.out.cell (World.block_lt_of_cell? w _ hx350_0)).trans hx350_0; replace hx350_1 := (HB.out.cell (World.block_lt_of_cell? w _ hx350_1)).trans hx350_1; replace hx350_2 := (HB.out.cell (World.block_lt_of_cell? w _ hx350_2)).trans hx350_2; replace hx350_3 := (HB.out.cell (World.block_lt_of_cell? w _ hx350_3)).trans hx350_3; replace hx350_4 := (HB.out.cell (World.block_lt_of_cell? w _ hx350_4)).trans hx350_4; replace hx350_0 := (cell_far (p := ⟨gb349, 0, none⟩) (by first | (rw [add_block]; exact hn350_0) | (show (Addr.add _ _).block ≠ _; rw [add_block]; exact hn350_0) | exact hn350_0) (.int .i64 t343)).trans hx350_0; replace hx350_1 := (cell_far (p := ⟨gb349, 0, none⟩) (by first | (rw [add_block]; exact hn350_0) | (show (Addr.add _ _).block ≠ _; rw [add_block]; exact hn350_0) | exact hn350_0) (.int .i64 t343)).trans hx350_1; replace hx350_2 := (cell_far (p := ⟨gb349, 0, none⟩) (by first | (rw [add_block]; exact hn350_0) | (show (Addr.add _ _).block ≠ _; rw [add_block]; exact hn350_0) | exact hn350_0) (.int .i64 t343)).trans hx350_2; replace hx350_3 := (cell_far (p := ⟨gb349, 0, none⟩) (by first | (rw [add_block]; exact hn350_0) | (show (Addr.add _ _).block ≠ _; rw [add_block]; exact hn350_0) | exact hn350_0) (.int .i64 t343)).trans hx350_3; replace hx350_4 := (cell_far (p := ⟨gb349, 0, none⟩) (by first | (rw [add_block]; exact hn350_0) | (show (Addr.add _ _).block ≠ _; rw [add_block]; exact hn350_0) | exact hn350_0) (.int .i64 t343)).trans hx350_4; replace hx350_0 := (cell_far (p := ⟨gb349, 1, none⟩) (by first | (rw [add_block]; exact hn350_1) | (show (Addr.add _ _).block ≠ _; rw [add_block]; exact hn350_1) | exact hn350_1) (.int .i64 t344)).trans hx350_0; replace hx350_1 := (cell_far (p := ⟨gb349, 1, none⟩) (by first | (rw [add_block]; exact hn350_1) | (show (Addr.add _ _).block ≠ _; rw [add_block]; exact hn350_1) | exact hn350_1) (.int .i64 t344)).trans hx350_1; replace hx350_2 := (cell_far (p := ⟨gb349, 1, none⟩) (by first | (rw [add_block]; exact hn350_1) | (show (Addr.add _ _).block ≠ _; rw [add_block]; exact hn350_1) | exact hn350_1) (.int .i64 t344)).trans hx350_2; replace hx350_3 := (cell_far (p := ⟨gb349, 1, none⟩) (by first | (rw [add_block]; exact hn350_1) | (show (Addr.add _ _).block ≠ _; rw [add_block]; exact hn350_1) | exact hn350_1) (.int .i64 t344)).trans hx350_3; replace hx350_4 := (cell_far (p := ⟨gb349, 1, none⟩) (by first | (rw [add_block]; exact hn350_1) | (show (Addr.add _ _).block ≠ _; rw [add_block]; exact hn350_1) | exact hn350_1) (.int .i64 t344)).trans hx350_4; replace hx350_0 := (cell_far (p := ⟨gb349, 2, none⟩) (by first | (rw [add_block]; exact hn350_2) | (show (Addr.add _ _).block ≠ _; rw [add_block]; exact hn350_2) | exact hn350_2) (.int .i64 t345)).trans hx350_0; replace hx350_1 := (cell_far (p := ⟨gb349, 2, none⟩) (by first | (rw [add_block]; exact hn350_2) | (show (Addr.add _ _).block ≠ _; rw [add_block]; exact hn350_2) | exact hn350_2) (.int .i64 t345)).trans hx350_1; replace hx350_2 := (cell_far (p := ⟨gb349, 2, none⟩) (by first | (rw [add_block]; exact hn350_2) | (show (Addr.add _ _).block ≠ _; rw [add_block]; exact hn350_2) | exact hn350_2) (.int .i64 t345)).trans hx350_2; replace hx350_3 := (cell_far (p := ⟨gb349, 2, none⟩) (by first | (rw [add_block]; exact hn350_2) | (show (Addr.add _ _).block ≠ _; rw [add_block]; exact hn350_2) | exact hn350_2) (.int .i64 t345)).trans hx350_3; replace hx350_4 := (cell_far (p := ⟨gb349, 2, none⟩) (by first | (rw [add_block]; exact hn350_2) | (show (Addr.add _ _).block ≠ _; rw [add_block]; exact hn350_2) | exact hn350_2) (.int .i64 t345)).trans hx350_4; replace hx350_0 := (cell_far (p := ⟨gb349, 3, none⟩) (by first | (rw [add_block]; exact hn350_3) | (show (Addr.add _ _).block ≠ _; rw [add_block]; exact hn350_3) | exact hn350_3) (.bool t346)).trans hx350_0; replace hx350_1 := (cell_far (p := ⟨gb349, 3, none⟩) (by first | (rw [add_block]; exact hn350_3) | (show (Addr.add _ _).block ≠ _; rw [add_block]; exact hn350_3) | exact hn350_3) (.bool t346)).trans hx350_1; replace hx350_2 := (cell_far (p := ⟨gb349, 3, none⟩) (by first | (rw [add_block]; exact hn350_3) | (show (Addr.add _ _).block ≠ _; rw [add_block]; exact hn350_3) | exact hn350_3) (.bool t346)).trans hx350_2; replace hx350_3 := (cell_far (p := ⟨gb349, 3, none⟩) (by first | (rw [add_block]; exact hn350_3) | (show (Addr.add _ _).block ≠ _; rw [add_block]; exact hn350_3) | exact hn350_3) (.bool t346)).trans hx350_3; replace hx350_4 := (cell_far (p := ⟨gb349, 3, none⟩) (by first | (rw [add_block]; exact hn350_3) | (show (Addr.add _ _).block ≠ _; rw [add_block]; exact hn350_3) | exact hn350_3) (.bool t346)).trans hx350_4; replace hx350_0 := (cell_far (p := ⟨gb349, 4, none⟩) (by first | (rw [add_block]; exact hn350_4) | (show (Addr.add _ _).block ≠ _; rw [add_block]; exact hn350_4) | exact hn350_4) (.bool t347)).trans hx350_0; replace hx350_1 := (cell_far (p := ⟨gb349, 4, none⟩) (by first | (rw [add_block]; exact hn350_4) | (show (Addr.add _ _).block ≠ _; rw [add_block]; exact hn350_4) | exact hn350_4) (.bool t347)).trans hx350_1; replace hx350_2 := (cell_far (p := ⟨gb349, 4, none⟩) (by first | (rw [add_block]; exact hn350_4) | (show (Addr.add _ _).block ≠ _; rw [add_block]; exact hn350_4) | exact hn350_4) (.bool t347)).trans hx350_2; replace hx350_3 := (cell_far (p := ⟨gb349, 4, none⟩) (by first | (rw [add_block]; exact hn350_4) | (show (Addr.add _ _).block ≠ _; rw [add_block]; exact hn350_4) | exact hn350_4) (.bool t347)).trans hx350_3; replace hx350_4 := (cell_far (p := ⟨gb349, 4, none⟩) (by first | (rw [add_block]; exact hn350_4) | (show (Addr.add _ _).block ≠ _; rw [add_block]; exact hn350_4) | exact hn350_4) (.bool t347)).trans hx350_4; clear hn350_0; clear hn350_1; clear hn350_2; clear hn350_3; clear hn350_4; replace p350 := eq_true p350; replace q350 := eq_true q350) | ((with_reducible refine gate_callee (f := 20) rfl ?_); refine sh_call (some 90) Tryd.func20 #[.int .i64 x10_4, .agg #[.int .u8 ((rd_T40 l0_1 x10_4).f0), .int .u8 ((rd_T40 l0_1 x10_4).f1), .int .u8 ((rd_T40 l0_1 x10_4).f2), .int .i16 ((rd_T40 l0_1 x10_4).f3), .int .i32 ((rd_T40 l0_1 x10_4).f4)]] ?_; (with_reducible refine (stockaderef04_Target.calls x10_4 ((rd_T40 l0_1 x10_4).f0) ((rd_T40 l0_1 x10_4).f1) ((rd_T40 l0_1 x10_4).f2) ((rd_T40 l0_1 x10_4).f3) ((rd_T40 l0_1 x10_4).f4) t351 _ A43.out).mono ?_); rintro e w63 ⟨rfl, hb⟩; refine ⟨_, rfl, ?_⟩; replace HO_6 := Aside0.mk (Kd.R_below (by (with_reducible repeat (first | apply Kd.R_alloc | apply Kd.R_drewN | apply Kd.R_drew)); exact (Kd.R_mono (Kd.R_far (p := ⟨gb349, 4, none⟩) (Kd.R_far (p := ⟨gb349, 3, none⟩) (Kd.R_far (p := ⟨gb349, 2, none⟩) (Kd.R_far (p := ⟨gb349, 1, none⟩) (Kd.R_far (p := ⟨gb349, 0, none⟩) (Kd.R_types HO_6.out BK349.out (by decide)) (fun _ hk => hk.2) (.int .i64 t343)) (fun _ hk => hk.2) (.int .i64 t344)) (fun _ hk => hk.2) (.int .i64 t345)) (fun _ hk => hk.2) (.bool t346)) (fun _ hk => hk.2) (.bool t347)) (fun _ h_ => h_.1))) hb); replace BK325 := sh_kp (g := gb325) (t := 25) #[.slice A0_0 l0_0.length c0_0, .slice (some ad342) l0_1.length c0_1] hb; replace BK349 := sh_kp (g := gb349) (t := 59) #[.int .i64 t343, .int .i64 t344, .int .i64 t345, .bool t346, .bool t347] hb; replace HB := sh_b (w := w) hb; (try clear hb); (try clear hb2); (try clear hk); (try clear hi); have hcz64 := blk_all5 BK349.out))
                     go_ret2
                     exact ⟨ret_now, b_now⟩
                    ·rw [if_neg c55] at H
                     have c55b0 : decide ((l0_1.length : Int) ≤ t351) = false := decide_eq_false c55
                     clear c55
                     by_cases c65 : 0 ≤ t351
                     ·rw [if_pos c65] at H
                      have c65b0 : decide (0 ≤ t351) = true := decide_eq_true c65
                      clear c65
                      by_cases c66 : t351 < (t328.length : Int)
                      ·rw [if_pos c66] at H
                       have c66b0 : decide (t351 < (t328.length : Int)) = true := decide_eq_true c66
                       clear c66
                       obtain ⟨bq67, hbq67⟩ : ∃ b_ : Bool, b_ = (rdOf false t328 t351) := ⟨_, rfl⟩
                       replace H : (if bq67 = true then (stockaderef04_Check.l2 k4 (l0_1.length : Int) t328 x7_3 (wrap64 (x10_4 + 1)) l0_0 l0_1) else (some (x10_4, 24))) = some (r1, r2) := by rw [← hbq67] at H; exact H
                       have Nbq67 := Aside0.mk hbq67
                       clear hbq67
                       by_cases c68 : bq67 = true
                       ·subst c68
                        replace H := sh_t H
                        have H' := Aside0.mk H
                        clear H
                        obtain ⟨Ao69, co69, eo69⟩ := Kd.R_slice HO_6.out
                        subst eo69
                        have p341 : 0 ≤ (x10_4 : Int) := of_decide_eq_true (by first | (with_reducible assumption) | assumption)
                        have q341 : x10_4 < (t328.length : Int) := of_decide_eq_true (by first | (with_reducible assumption) | assumption)
                        obtain ⟨ad341, e341, hx341_0⟩ := Kd.at_bool (Kd.R_reads' HO_6.out).2.2 x10_4 p341 q341
                        (try rw [← Nbq39.out] at hx341_0)
                        (try rw [← Nbq67.out] at hx341_0)
                        cases e341
                        replace p341 := eq_true p341
                        replace q341 := eq_true q341
                        have hcz70 := blk_all2 BK325.out
                        have p342 : 0 ≤ (x10_4 : Int) := of_decide_eq_true (by first | (with_reducible assumption) | assumption)
                        have q342 : x10_4 < (l0_1.length : Int) := of_decide_eq_true (by first | (with_reducible assumption) | assumption)
                        obtain ⟨ad342, e342, hx342_0, hx342_1, hx342_2, hx342_3, hx342_4⟩ := at_T40 HR0_1.out x10_4 p342 q342
                        cases e342
                        replace hx342_0 := (HB.out.cell (World.block_lt_of_cell? w _ hx342_0)).trans hx342_0
                        replace hx342_1 := (HB.out.cell (World.block_lt_of_cell? w _ hx342_1)).trans hx342_1
                        replace hx342_2 := (HB.out.cell (World.block_lt_of_cell? w _ hx342_2)).trans hx342_2
                        replace hx342_3 := (HB.out.cell (World.block_lt_of_cell? w _ hx342_3)).trans hx342_3
                        replace hx342_4 := (HB.out.cell (World.block_lt_of_cell? w _ hx342_4)).trans hx342_4
                        replace p342 := eq_true p342
                        replace q342 := eq_true q342
                        go_wp2_with (first | ((with_reducible refine gate_callee (f := 30) rfl ?_); refine sh_call (some 81) Tryd.func30 #[.agg #[.int .u8 ((rd_T40 l0_1 x10_4).f0), .int .u8 ((rd_T40 l0_1 x10_4).f1), .int .u8 ((rd_T40 l0_1 x10_4).f2), .int .i16 ((rd_T40 l0_1 x10_4).f3), .int .i32 ((rd_T40 l0_1 x10_4).f4)]] ?_; (with_reducible refine (stockaderef02_Of.calls k4 ((rd_T40 l0_1 x10_4).f0) ((rd_T40 l0_1 x10_4).f1) ((rd_T40 l0_1 x10_4).f2) ((rd_T40 l0_1 x10_4).f3) ((rd_T40 l0_1 x10_4).f4) t343 t344 t345 t346 t347 t348 _ A42.out).mono ?_); rintro e w71 ⟨rfl, hb⟩; refine ⟨_, rfl, ?_⟩; replace HO_6 := Aside0.mk (Kd.R_below (by (with_reducible repeat (first | apply Kd.R_alloc | apply Kd.R_drewN | apply Kd.R_drew)); exact HO_6.out) hb); replace BK325 := sh_k BK325 hb; replace HB := sh_b (w := w) hb; (try clear hb); (try clear hb2); (try clear hk); (try clear hi)) | ((with_reducible refine gate_dst (N := 11) rfl ?_); (try (refine gate_guard (by rfl) ?_; dsimp only)); refine sh_box 11 #[.int .i64 0, .int .i64 0, .int .i64 0, .bool false, .bool false] 59 ?_; intro gb349 hg w72 hbox hb; have GW349 := sh_z (w := w) hg; have GE349 := sh_z (w := w) hg; have NB325_349 := sh_n BK325 hg; have NB349_325 := sh_s NB325_349; replace HO_6 := Aside0.mk (Kd.R_below (by (with_reducible repeat (first | apply Kd.R_alloc | apply Kd.R_drewN | apply Kd.R_drew)); exact HO_6.out) hb); replace BK325 := sh_k BK325 hb; replace HB := sh_b (w := w) hb; have BK349 := Aside0.mk (hbox); clear hb hbox hg; have hnb73 := NB349_325.out; have hnc73 := NB325_349.out; have hcz74 := blk_all5 BK349.out; have hcz75 := blk_all2 BK325.out; have p350 : 0 ≤ (x10_4 : Int) := of_decide_eq_true (by first | (with_reducible assumption) | assumption); have q350 : x10_4 < (l0_1.length : Int) := of_decide_eq_true (by first | (with_reducible assumption) | assumption); obtain ⟨ad350, e350, hx350_0, hx350_1, hx350_2, hx350_3, hx350_4⟩ := at_T40 HR0_1.out x10_4 p350 q350; obtain rfl : ad342 = ad350 := (by injection e350); have hn350_0 : ad342.block ≠ gb349 := Nat.ne_of_lt (Nat.lt_of_lt_of_le (by have := World.block_lt_of_cell? _ _ hx350_0; first | rwa [add_block] at this | exact this) GW349.out); have hn350_1 : ad342.block ≠ gb349 := Nat.ne_of_lt (Nat.lt_of_lt_of_le (by have := World.block_lt_of_cell? _ _ hx350_0; first | rwa [add_block] at this | exact this) GW349.out); have hn350_2 : ad342.block ≠ gb349 := Nat.ne_of_lt (Nat.lt_of_lt_of_le (by have := World.block_lt_of_cell? _ _ hx350_0; first | rwa [add_block] at this | exact this) GW349.out); have hn350_3 : ad342.block ≠ gb349 := Nat.ne_of_lt (Nat.lt_of_lt_of_le (by have := World.block_lt_of_cell? _ _ hx350_0; first | rwa [add_block] at this | exact this) GW349.out); have hn350_4 : ad342.block ≠ gb349 := Nat.ne_of_lt (Nat.lt_of_lt_of_le (by have := World.block_lt_of_cell? _ _ hx350_0; first | rwa [add_block] at this | exact this) GW349.out); replace hx350_0 := (HB.out.cell (World.block_lt_of_cell? w _ hx350_0)).trans hx350_0; replace hx350_1 := (HB.out.cell (World.block_lt_of_cell? w _ hx350_1)).trans hx350_1; replace hx350_2 := (HB.out.cell (World.block_lt_of_cell? w _ hx350_2)).trans hx350_2; replace hx350_3 := (HB.out.cell (World.block_lt_of_cell? w _ hx350_3)).trans hx350_3; replace hx350_4 := (HB.out.cell (World.block_lt_of_cell? w _ hx350_4)).trans hx350_4; replace hx350_0 := (cell_far (p := ⟨gb349, 0, none⟩) (by first | (rw [add_block]; exact hn350_0) | (show (Addr.add _ _).block ≠ _; rw [add_block]; exact hn350_0) | exact hn350_0) (.int .i64 t343)).trans hx350_0; replace hx350_1 := (cell_far (p := ⟨gb349, 0, none⟩) (by first | (rw [add_block]; exact hn350_0) | (show (Addr.add _ _).block ≠ _; rw [add_block]; exact hn350_0) | exact hn350_0) (.int .i64 t343)).trans hx350_1; replace hx350_2 := (cell_far (p := ⟨gb349, 0, none⟩) (by first | (rw [add_block]; exact hn350_0) | (show (Addr.add _ _).block ≠ _; rw [add_block]; exact hn350_0) | exact hn350_0) (.int .i64 t343)).trans hx350_2; replace hx350_3 := (cell_far (p := ⟨gb349, 0, none⟩) (by first | (rw [add_block]; exact hn350_0) | (show (Addr.add _ _).block ≠ _; rw [add_block]; exact hn350_0) | exact hn350_0) (.int .i64 t343)).trans hx350_3; replace hx350_4 := (cell_far (p := ⟨gb349, 0, none⟩) (by first | (rw [add_block]; exact hn350_0) | (show (Addr.add _ _).block ≠ _; rw [add_block]; exact hn350_0) | exact hn350_0) (.int .i64 t343)).trans hx350_4; replace hx350_0 := (cell_far (p := ⟨gb349, 1, none⟩) (by first | (rw [add_block]; exact hn350_1) | (show (Addr.add _ _).block ≠ _; rw [add_block]; exact hn350_1) | exact hn350_1) (.int .i64 t344)).trans hx350_0; replace hx350_1 := (cell_far (p := ⟨gb349, 1, none⟩) (by first | (rw [add_block]; exact hn350_1) | (show (Addr.add _ _).block ≠ _; rw [add_block]; exact hn350_1) | exact hn350_1) (.int .i64 t344)).trans hx350_1; replace hx350_2 := (cell_far (p := ⟨gb349, 1, none⟩) (by first | (rw [add_block]; exact hn350_1) | (show (Addr.add _ _).block ≠ _; rw [add_block]; exact hn350_1) | exact hn350_1) (.int .i64 t344)).trans hx350_2; replace hx350_3 := (cell_far (p := ⟨gb349, 1, none⟩) (by first | (rw [add_block]; exact hn350_1) | (show (Addr.add _ _).block ≠ _; rw [add_block]; exact hn350_1) | exact hn350_1) (.int .i64 t344)).trans hx350_3; replace hx350_4 := (cell_far (p := ⟨gb349, 1, none⟩) (by first | (rw [add_block]; exact hn350_1) | (show (Addr.add _ _).block ≠ _; rw [add_block]; exact hn350_1) | exact hn350_1) (.int .i64 t344)).trans hx350_4; replace hx350_0 := (cell_far (p := ⟨gb349, 2, none⟩) (by first | (rw [add_block]; exact hn350_2) | (show (Addr.add _ _).block ≠ _; rw [add_block]; exact hn350_2) | exact hn350_2) (.int .i64 t345)).trans hx350_0; replace hx350_1 := (cell_far (p := ⟨gb349, 2, none⟩) (by first | (rw [add_block]; exact hn350_2) | (show (Addr.add _ _).block ≠ _; rw [add_block]; exact hn350_2) | exact hn350_2) (.int .i64 t345)).trans hx350_1; replace hx350_2 := (cell_far (p := ⟨gb349, 2, none⟩) (by first | (rw [add_block]; exact hn350_2) | (show (Addr.add _ _).block ≠ _; rw [add_block]; exact hn350_2) | exact hn350_2) (.int .i64 t345)).trans hx350_2; replace hx350_3 := (cell_far (p := ⟨gb349, 2, none⟩) (by first | (rw [add_block]; exact hn350_2) | (show (Addr.add _ _).block ≠ _; rw [add_block]; exact hn350_2) | exact hn350_2) (.int .i64 t345)).trans hx350_3; replace hx350_4 := (cell_far (p := ⟨gb349, 2, none⟩) (by first | (rw [add_block]; exact hn350_2) | (show (Addr.add _ _).block ≠ _; rw [add_block]; exact hn350_2) | exact hn350_2) (.int .i64 t345)).trans hx350_4; replace hx350_0 := (cell_far (p := ⟨gb349, 3, none⟩) (by first | (rw [add_block]; exact hn350_3) | (show (Addr.add _ _).block ≠ _; rw [add_block]; exact hn350_3) | exact hn350_3) (.bool t346)).trans hx350_0; replace hx350_1 := (cell_far (p := ⟨gb349, 3, none⟩) (by first | (rw [add_block]; exact hn350_3) | (show (Addr.add _ _).block ≠ _; rw [add_block]; exact hn350_3) | exact hn350_3) (.bool t346)).trans hx350_1; replace hx350_2 := (cell_far (p := ⟨gb349, 3, none⟩) (by first | (rw [add_block]; exact hn350_3) | (show (Addr.add _ _).block ≠ _; rw [add_block]; exact hn350_3) | exact hn350_3) (.bool t346)).trans hx350_2; replace hx350_3 := (cell_far (p := ⟨gb349, 3, none⟩) (by first | (rw [add_block]; exact hn350_3) | (show (Addr.add _ _).block ≠ _; rw [add_block]; exact hn350_3) | exact hn350_3) (.bool t346)).trans hx350_3; replace hx350_4 := (cell_far (p := ⟨gb349, 3, none⟩) (by first | (rw [add_block]; exact hn350_3) | (show (Addr.add _ _).block ≠ _; rw [add_block]; exact hn350_3) | exact hn350_3) (.bool t346)).trans hx350_4; replace hx350_0 := (cell_far (p := ⟨gb349, 4, none⟩) (by first | (rw [add_block]; exact hn350_4) | (show (Addr.add _ _).block ≠ _; rw [add_block]; exact hn350_4) | exact hn350_4) (.bool t347)).trans hx350_0; replace hx350_1 := (cell_far (p := ⟨gb349, 4, none⟩) (by first | (rw [add_block]; exact hn350_4) | (show (Addr.add _ _).block ≠ _; rw [add_block]; exact hn350_4) | exact hn350_4) (.bool t347)).trans hx350_1; replace hx350_2 := (cell_far (p := ⟨gb349, 4, none⟩) (by first | (rw [add_block]; exact hn350_4) | (show (Addr.add _ _).block ≠ _; rw [add_block]; exact hn350_4) | exact hn350_4) (.bool t347)).trans hx350_2; replace hx350_3 := (cell_far (p := ⟨gb349, 4, none⟩) (by first | (rw [add_block]; exact hn350_4) | (show (Addr.add _ _).block ≠ _; rw [add_block]; exact hn350_4) | exact hn350_4) (.bool t347)).trans hx350_3; replace hx350_4 := (cell_far (p := ⟨gb349, 4, none⟩) (by first | (rw [add_block]; exact hn350_4) | (show (Addr.add _ _).block ≠ _; rw [add_block]; exact hn350_4) | exact hn350_4) (.bool t347)).trans hx350_4; clear hn350_0; clear hn350_1; clear hn350_2; clear hn350_3; clear hn350_4; replace p350 := eq_true p350; replace q350 := eq_true q350) | ((with_reducible refine gate_callee (f := 20) rfl ?_); refine sh_call (some 90) Tryd.func20 #[.int .i64 x10_4, .agg #[.int .u8 ((rd_T40 l0_1 x10_4).f0), .int .u8 ((rd_T40 l0_1 x10_4).f1), .int .u8 ((rd_T40 l0_1 x10_4).f2), .int .i16 ((rd_T40 l0_1 x10_4).f3), .int .i32 ((rd_T40 l0_1 x10_4).f4)]] ?_; (with_reducible refine (stockaderef04_Target.calls x10_4 ((rd_T40 l0_1 x10_4).f0) ((rd_T40 l0_1 x10_4).f1) ((rd_T40 l0_1 x10_4).f2) ((rd_T40 l0_1 x10_4).f3) ((rd_T40 l0_1 x10_4).f4) t351 _ A43.out).mono ?_); rintro e w76 ⟨rfl, hb⟩; refine ⟨_, rfl, ?_⟩; replace HO_6 := Aside0.mk (Kd.R_below (by (with_reducible repeat (first | apply Kd.R_alloc | apply Kd.R_drewN | apply Kd.R_drew)); exact (Kd.R_mono (Kd.R_far (p := ⟨gb349, 4, none⟩) (Kd.R_far (p := ⟨gb349, 3, none⟩) (Kd.R_far (p := ⟨gb349, 2, none⟩) (Kd.R_far (p := ⟨gb349, 1, none⟩) (Kd.R_far (p := ⟨gb349, 0, none⟩) (Kd.R_types HO_6.out BK349.out (by decide)) (fun _ hk => hk.2) (.int .i64 t343)) (fun _ hk => hk.2) (.int .i64 t344)) (fun _ hk => hk.2) (.int .i64 t345)) (fun _ hk => hk.2) (.bool t346)) (fun _ hk => hk.2) (.bool t347)) (fun _ h_ => h_.1))) hb); replace BK325 := sh_kp (g := gb325) (t := 25) #[.slice A0_0 l0_0.length c0_0, .slice (some ad342) l0_1.length c0_1] hb; replace BK349 := sh_kp (g := gb349) (t := 59) #[.int .i64 t343, .int .i64 t344, .int .i64 t345, .bool t346, .bool t347] hb; replace HB := sh_b (w := w) hb; (try clear hb); (try clear hb2); (try clear hk); (try clear hi); have hcz77 := blk_all5 BK349.out; have p352 : 0 ≤ (t351 : Int) := of_decide_eq_true (by first | (with_reducible assumption) | assumption); have q352 : t351 < (t328.length : Int) := of_decide_eq_true (by first | (with_reducible assumption) | assumption); obtain ⟨ad352, e352, hx352_0⟩ := Kd.at_bool (Kd.R_reads' HO_6.out).2.2 t351 p352 q352; (try rw [← Nbq39.out] at hx352_0); (try rw [← Nbq67.out] at hx352_0); obtain rfl : ad341 = ad352 := (by injection e352); replace p352 := eq_true p352; replace q352 := eq_true q352))
                        go_roundg k4
                        case measure => have := HJ4.out; have := HK2.out; have := HK3.out; have := HK4.out; omega
                        case rel => exact ⟨(wrap64 (x10_4 + 1)), eq_now, H', ⟨by have := HJ4.out; have := HK2.out; have := HK3.out; have := HK4.out; omega⟩, ⟨by (with_reducible repeat (first | apply Kd.R_alloc | apply Kd.R_drewN | apply Kd.R_drew)); exact HO_6.out⟩, ⟨bk_now⟩, ⟨b_now⟩⟩
                       ·replace c68 := Bool.eq_false_iff.mpr c68
                        subst c68
                        replace H := sh_f H
                        simp only [Option.some.injEq, Prod.mk.injEq] at H
                        obtain ⟨rfl, rfl⟩ := H
                        obtain ⟨Ao78, co78, eo78⟩ := Kd.R_slice HO_6.out
                        subst eo78
                        have p341 : 0 ≤ (x10_4 : Int) := of_decide_eq_true (by first | (with_reducible assumption) | assumption)
                        have q341 : x10_4 < (t328.length : Int) := of_decide_eq_true (by first | (with_reducible assumption) | assumption)
                        obtain ⟨ad341, e341, hx341_0⟩ := Kd.at_bool (Kd.R_reads' HO_6.out).2.2 x10_4 p341 q341
                        (try rw [← Nbq39.out] at hx341_0)
                        (try rw [← Nbq67.out] at hx341_0)
                        cases e341
                        replace p341 := eq_true p341
                        replace q341 := eq_true q341
                        have hcz79 := blk_all2 BK325.out
                        have p342 : 0 ≤ (x10_4 : Int) := of_decide_eq_true (by first | (with_reducible assumption) | assumption)
                        have q342 : x10_4 < (l0_1.length : Int) := of_decide_eq_true (by first | (with_reducible assumption) | assumption)
                        obtain ⟨ad342, e342, hx342_0, hx342_1, hx342_2, hx342_3, hx342_4⟩ := at_T40 HR0_1.out x10_4 p342 q342
                        cases e342
                        replace hx342_0 := (HB.out.cell (World.block_lt_of_cell? w _ hx342_0)).trans hx342_0
                        replace hx342_1 := (HB.out.cell (World.block_lt_of_cell? w _ hx342_1)).trans hx342_1
                        replace hx342_2 := (HB.out.cell (World.block_lt_of_cell? w _ hx342_2)).trans hx342_2
                        replace hx342_3 := (HB.out.cell (World.block_lt_of_cell? w _ hx342_3)).trans hx342_3
                        replace hx342_4 := (HB.out.cell (World.block_lt_of_cell? w _ hx342_4)).trans hx342_4
                        replace p342 := eq_true p342
                        replace q342 := eq_true q342
                        go_wp2_with (first | ((with_reducible refine gate_callee (f := 30) rfl ?_); refine sh_call (some 81) Tryd.func30 #[.agg #[.int .u8 ((rd_T40 l0_1 x10_4).f0), .int .u8 ((rd_T40 l0_1 x10_4).f1), .int .u8 ((rd_T40 l0_1 x10_4).f2), .int .i16 ((rd_T40 l0_1 x10_4).f3), .int .i32 ((rd_T40 l0_1 x10_4).f4)]] ?_; (with_reducible refine (stockaderef02_Of.calls k4 ((rd_T40 l0_1 x10_4).f0) ((rd_T40 l0_1 x10_4).f1) ((rd_T40 l0_1 x10_4).f2) ((rd_T40 l0_1 x10_4).f3) ((rd_T40 l0_1 x10_4).f4) t343 t344 t345 t346 t347 t348 _ A42.out).mono ?_); rintro e w80 ⟨rfl, hb⟩; refine ⟨_, rfl, ?_⟩; replace HO_6 := Aside0.mk (Kd.R_below (by (with_reducible repeat (first | apply Kd.R_alloc | apply Kd.R_drewN | apply Kd.R_drew)); exact HO_6.out) hb); replace BK325 := sh_k BK325 hb; replace HB := sh_b (w := w) hb; (try clear hb); (try clear hb2); (try clear hk); (try clear hi)) | ((with_reducible refine gate_dst (N := 11) rfl ?_); (try (refine gate_guard (by rfl) ?_; dsimp only)); refine sh_box 11 #[.int .i64 0, .int .i64 0, .int .i64 0, .bool false, .bool false] 59 ?_; intro gb349 hg w81 hbox hb; have GW349 := sh_z (w := w) hg; have GE349 := sh_z (w := w) hg; have NB325_349 := sh_n BK325 hg; have NB349_325 := sh_s NB325_349; replace HO_6 := Aside0.mk (Kd.R_below (by (with_reducible repeat (first | apply Kd.R_alloc | apply Kd.R_drewN | apply Kd.R_drew)); exact HO_6.out) hb); replace BK325 := sh_k BK325 hb; replace HB := sh_b (w := w) hb; have BK349 := Aside0.mk (hbox); clear hb hbox hg; have hnb82 := NB349_325.out; have hnc82 := NB325_349.out; have hcz83 := blk_all5 BK349.out; have hcz84 := blk_all2 BK325.out; have p350 : 0 ≤ (x10_4 : Int) := of_decide_eq_true (by first | (with_reducible assumption) | assumption); have q350 : x10_4 < (l0_1.length : Int) := of_decide_eq_true (by first | (with_reducible assumption) | assumption); obtain ⟨ad350, e350, hx350_0, hx350_1, hx350_2, hx350_3, hx350_4⟩ := at_T40 HR0_1.out x10_4 p350 q350; obtain rfl : ad342 = ad350 := (by injection e350); have hn350_0 : ad342.block ≠ gb349 := Nat.ne_of_lt (Nat.lt_of_lt_of_le (by have := World.block_lt_of_cell? _ _ hx350_0; first | rwa [add_block] at this | exact this) GW349.out); have hn350_1 : ad342.block ≠ gb349 := Nat.ne_of_lt (Nat.lt_of_lt_of_le (by have := World.block_lt_of_cell? _ _ hx350_0; first | rwa [add_block] at this | exact this) GW349.out); have hn350_2 : ad342.block ≠ gb349 := Nat.ne_of_lt (Nat.lt_of_lt_of_le (by have := World.block_lt_of_cell? _ _ hx350_0; first | rwa [add_block] at this | exact this) GW349.out); have hn350_3 : ad342.block ≠ gb349 := Nat.ne_of_lt (Nat.lt_of_lt_of_le (by have := World.block_lt_of_cell? _ _ hx350_0; first | rwa [add_block] at this | exact this) GW349.out); have hn350_4 : ad342.block ≠ gb349 := Nat.ne_of_lt (Nat.lt_of_lt_of_le (by have := World.block_lt_of_cell? _ _ hx350_0; first | rwa [add_block] at this | exact this) GW349.out); replace hx350_0 := (HB.out.cell (World.block_lt_of_cell? w _ hx350_0)).trans hx350_0; replace hx350_1 := (HB.out.cell (World.block_lt_of_cell? w _ hx350_1)).trans hx350_1; replace hx350_2 := (HB.out.cell (World.block_lt_of_cell? w _ hx350_2)).trans hx350_2; replace hx350_3 := (HB.out.cell (World.block_lt_of_cell? w _ hx350_3)).trans hx350_3; replace hx350_4 := (HB.out.cell (World.block_lt_of_cell? w _ hx350_4)).trans hx350_4; replace hx350_0 := (cell_far (p := ⟨gb349, 0, none⟩) (by first | (rw [add_block]; exact hn350_0) | (show (Addr.add _ _).block ≠ _; rw [add_block]; exact hn350_0) | exact hn350_0) (.int .i64 t343)).trans hx350_0; replace hx350_1 := (cell_far (p := ⟨gb349, 0, none⟩) (by first | (rw [add_block]; exact hn350_0) | (show (Addr.add _ _).block ≠ _; rw [add_block]; exact hn350_0) | exact hn350_0) (.int .i64 t343)).trans hx350_1; replace hx350_2 := (cell_far (p := ⟨gb349, 0, none⟩) (by first | (rw [add_block]; exact hn350_0) | (show (Addr.add _ _).block ≠ _; rw [add_block]; exact hn350_0) | exact hn350_0) (.int .i64 t343)).trans hx350_2; replace hx350_3 := (cell_far (p := ⟨gb349, 0, none⟩) (by first | (rw [add_block]; exact hn350_0) | (show (Addr.add _ _).block ≠ _; rw [add_block]; exact hn350_0) | exact hn350_0) (.int .i64 t343)).trans hx350_3; replace hx350_4 := (cell_far (p := ⟨gb349, 0, none⟩) (by first | (rw [add_block]; exact hn350_0) | (show (Addr.add _ _).block ≠ _; rw [add_block]; exact hn350_0) | exact hn350_0) (.int .i64 t343)).trans hx350_4; replace hx350_0 := (cell_far (p := ⟨gb349, 1, none⟩) (by first | (rw [add_block]; exact hn350_1) | (show (Addr.add _ _).block ≠ _; rw [add_block]; exact hn350_1) | exact hn350_1) (.int .i64 t344)).trans hx350_0; replace hx350_1 := (cell_far (p := ⟨gb349, 1, none⟩) (by first | (rw [add_block]; exact hn350_1) | (show (Addr.add _ _).block ≠ _; rw [add_block]; exact hn350_1) | exact hn350_1) (.int .i64 t344)).trans hx350_1; replace hx350_2 := (cell_far (p := ⟨gb349, 1, none⟩) (by first | (rw [add_block]; exact hn350_1) | (show (Addr.add _ _).block ≠ _; rw [add_block]; exact hn350_1) | exact hn350_1) (.int .i64 t344)).trans hx350_2; replace hx350_3 := (cell_far (p := ⟨gb349, 1, none⟩) (by first | (rw [add_block]; exact hn350_1) | (show (Addr.add _ _).block ≠ _; rw [add_block]; exact hn350_1) | exact hn350_1) (.int .i64 t344)).trans hx350_3; replace hx350_4 := (cell_far (p := ⟨gb349, 1, none⟩) (by first | (rw [add_block]; exact hn350_1) | (show (Addr.add _ _).block ≠ _; rw [add_block]; exact hn350_1) | exact hn350_1) (.int .i64 t344)).trans hx350_4; replace hx350_0 := (cell_far (p := ⟨gb349, 2, none⟩) (by first | (rw [add_block]; exact hn350_2) | (show (Addr.add _ _).block ≠ _; rw [add_block]; exact hn350_2) | exact hn350_2) (.int .i64 t345)).trans hx350_0; replace hx350_1 := (cell_far (p := ⟨gb349, 2, none⟩) (by first | (rw [add_block]; exact hn350_2) | (show (Addr.add _ _).block ≠ _; rw [add_block]; exact hn350_2) | exact hn350_2) (.int .i64 t345)).trans hx350_1; replace hx350_2 := (cell_far (p := ⟨gb349, 2, none⟩) (by first | (rw [add_block]; exact hn350_2) | (show (Addr.add _ _).block ≠ _; rw [add_block]; exact hn350_2) | exact hn350_2) (.int .i64 t345)).trans hx350_2; replace hx350_3 := (cell_far (p := ⟨gb349, 2, none⟩) (by first | (rw [add_block]; exact hn350_2) | (show (Addr.add _ _).block ≠ _; rw [add_block]; exact hn350_2) | exact hn350_2) (.int .i64 t345)).trans hx350_3; replace hx350_4 := (cell_far (p := ⟨gb349, 2, none⟩) (by first | (rw [add_block]; exact hn350_2) | (show (Addr.add _ _).block ≠ _; rw [add_block]; exact hn350_2) | exact hn350_2) (.int .i64 t345)).trans hx350_4; replace hx350_0 := (cell_far (p := ⟨gb349, 3, none⟩) (by first | (rw [add_block]; exact hn350_3) | (show (Addr.add _ _).block ≠ _; rw [add_block]; exact hn350_3) | exact hn350_3) (.bool t346)).trans hx350_0; replace hx350_1 := (cell_far (p := ⟨gb349, 3, none⟩) (by first | (rw [add_block]; exact hn350_3) | (show (Addr.add _ _).block ≠ _; rw [add_block]; exact hn350_3) | exact hn350_3) (.bool t346)).trans hx350_1; replace hx350_2 := (cell_far (p := ⟨gb349, 3, none⟩) (by first | (rw [add_block]; exact hn350_3) | (show (Addr.add _ _).block ≠ _; rw [add_block]; exact hn350_3) | exact hn350_3) (.bool t346)).trans hx350_2; replace hx350_3 := (cell_far (p := ⟨gb349, 3, none⟩) (by first | (rw [add_block]; exact hn350_3) | (show (Addr.add _ _).block ≠ _; rw [add_block]; exact hn350_3) | exact hn350_3) (.bool t346)).trans hx350_3; replace hx350_4 := (cell_far (p := ⟨gb349, 3, none⟩) (by first | (rw [add_block]; exact hn350_3) | (show (Addr.add _ _).block ≠ _; rw [add_block]; exact hn350_3) | exact hn350_3) (.bool t346)).trans hx350_4; replace hx350_0 := (cell_far (p := ⟨gb349, 4, none⟩) (by first | (rw [add_block]; exact hn350_4) | (show (Addr.add _ _).block ≠ _; rw [add_block]; exact hn350_4) | exact hn350_4) (.bool t347)).trans hx350_0; replace hx350_1 := (cell_far (p := ⟨gb349, 4, none⟩) (by first | (rw [add_block]; exact hn350_4) | (show (Addr.add _ _).block ≠ _; rw [add_block]; exact hn350_4) | exact hn350_4) (.bool t347)).trans hx350_1; replace hx350_2 := (cell_far (p := ⟨gb349, 4, none⟩) (by first | (rw [add_block]; exact hn350_4) | (show (Addr.add _ _).block ≠ _; rw [add_block]; exact hn350_4) | exact hn350_4) (.bool t347)).trans hx350_2; replace hx350_3 := (cell_far (p := ⟨gb349, 4, none⟩) (by first | (rw [add_block]; exact hn350_4) | (show (Addr.add _ _).block ≠ _; rw [add_block]; exact hn350_4) | exact hn350_4) (.bool t347)).trans hx350_3; replace hx350_4 := (cell_far (p := ⟨gb349, 4, none⟩) (by first | (rw [add_block]; exact hn350_4) | (show (Addr.add _ _).block ≠ _; rw [add_block]; exact hn350_4) | exact hn350_4) (.bool t347)).trans hx350_4; clear hn350_0; clear hn350_1; clear hn350_2; clear hn350_3; clear hn350_4; replace p350 := eq_true p350; replace q350 := eq_true q350) | ((with_reducible refine gate_callee (f := 20) rfl ?_); refine sh_call (some 90) Tryd.func20 #[.int .i64 x10_4, .agg #[.int .u8 ((rd_T40 l0_1 x10_4).f0), .int .u8 ((rd_T40 l0_1 x10_4).f1), .int .u8 ((rd_T40 l0_1 x10_4).f2), .int .i16 ((rd_T40 l0_1 x10_4).f3), .int .i32 ((rd_T40 l0_1 x10_4).f4)]] ?_; (with_reducible refine (stockaderef04_Target.calls x10_4 ((rd_T40 l0_1 x10_4).f0) ((rd_T40 l0_1 x10_4).f1) ((rd_T40 l0_1 x10_4).f2) ((rd_T40 l0_1 x10_4).f3) ((rd_T40 l0_1 x10_4).f4) t351 _ A43.out).mono ?_); rintro e w85 ⟨rfl, hb⟩; refine ⟨_, rfl, ?_⟩; replace HO_6 := Aside0.mk (Kd.R_below (by (with_reducible repeat (first | apply Kd.R_alloc | apply Kd.R_drewN | apply Kd.R_drew)); exact (Kd.R_mono (Kd.R_far (p := ⟨gb349, 4, none⟩) (Kd.R_far (p := ⟨gb349, 3, none⟩) (Kd.R_far (p := ⟨gb349, 2, none⟩) (Kd.R_far (p := ⟨gb349, 1, none⟩) (Kd.R_far (p := ⟨gb349, 0, none⟩) (Kd.R_types HO_6.out BK349.out (by decide)) (fun _ hk => hk.2) (.int .i64 t343)) (fun _ hk => hk.2) (.int .i64 t344)) (fun _ hk => hk.2) (.int .i64 t345)) (fun _ hk => hk.2) (.bool t346)) (fun _ hk => hk.2) (.bool t347)) (fun _ h_ => h_.1))) hb); replace BK325 := sh_kp (g := gb325) (t := 25) #[.slice A0_0 l0_0.length c0_0, .slice (some ad342) l0_1.length c0_1] hb; replace BK349 := sh_kp (g := gb349) (t := 59) #[.int .i64 t343, .int .i64 t344, .int .i64 t345, .bool t346, .bool t347] hb; replace HB := sh_b (w := w) hb; (try clear hb); (try clear hb2); (try clear hk); (try clear hi); have hcz86 := blk_all5 BK349.out; have p352 : 0 ≤ (t351 : Int) := of_decide_eq_true (by first | (with_reducible assumption) | assumption); have q352 : t351 < (t328.length : Int) := of_decide_eq_true (by first | (with_reducible assumption) | assumption); obtain ⟨ad352, e352, hx352_0⟩ := Kd.at_bool (Kd.R_reads' HO_6.out).2.2 t351 p352 q352; (try rw [← Nbq39.out] at hx352_0); (try rw [← Nbq67.out] at hx352_0); obtain rfl : ad341 = ad352 := (by injection e352); replace p352 := eq_true p352; replace q352 := eq_true q352))
                        go_ret2
                        exact ⟨ret_now, b_now⟩
                      ·rw [if_neg c66] at H
                       exact absurd H (by simp)
                     ·rw [if_neg c65] at H
                      exact absurd H (by simp)
                  ·rw [if_neg c44] at H
                   have c44b0 : (t343 == 6) = false := beq_eq_false_iff_ne.mpr c44
                   have c44b1 : (t343 != 6) = true := bne_iff_ne.mpr c44
                   by_cases c87 : t343 = 7
                   ·rw [if_pos c87] at H
                    have c87b0 : (t343 == 7) = true := beq_iff_eq.mpr c87
                    have c87b1 : (t343 != 7) = false := bne_eq_false_iff_eq.mpr c87
                    clear c87
                    by_cases c88 : t351 < 0
                    ·rw [if_pos c88] at H
                     have c88b0 : decide (t351 < 0) = true := decide_eq_true c88
                     clear c88
                     simp only [Option.some.injEq, Prod.mk.injEq] at H
                     obtain ⟨rfl, rfl⟩ := H
                     obtain ⟨Ao89, co89, eo89⟩ := Kd.R_slice HO_6.out
                     subst eo89
                     have p341 : 0 ≤ (x10_4 : Int) := of_decide_eq_true (by first | (with_reducible assumption) | assumption)
                     have q341 : x10_4 < (t328.length : Int) := of_decide_eq_true (by first | (with_reducible assumption) | assumption)
                     obtain ⟨ad341, e341, hx341_0⟩ := Kd.at_bool (Kd.R_reads' HO_6.out).2.2 x10_4 p341 q341
                     (try rw [← Nbq39.out] at hx341_0)
                     cases e341
                     replace p341 := eq_true p341
                     replace q341 := eq_true q341
                     have hcz90 := blk_all2 BK325.out
                     have p342 : 0 ≤ (x10_4 : Int) := of_decide_eq_true (by first | (with_reducible assumption) | assumption)
                     have q342 : x10_4 < (l0_1.length : Int) := of_decide_eq_true (by first | (with_reducible assumption) | assumption)
                     obtain ⟨ad342, e342, hx342_0, hx342_1, hx342_2, hx342_3, hx342_4⟩ := at_T40 HR0_1.out x10_4 p342 q342
                     cases e342
                     replace hx342_0 := (HB.out.cell (World.block_lt_of_cell? w _ hx342_0)).trans hx342_0
                     replace hx342_1 := (HB.out.cell (World.block_lt_of_cell? w _ hx342_1)).trans hx342_1
                     replace hx342_2 := (HB.out.cell (World.block_lt_of_cell? w _ hx342_2)).trans hx342_2
                     replace hx342_3 := (HB.out.cell (World.block_lt_of_cell? w _ hx342_3)).trans hx342_3
                     replace hx342_4 := (HB.out.cell (World.block_lt_of_cell? w _ hx342_4)).trans hx342_4
                     replace p342 := eq_true p342
                     replace q342 := eq_true q342
                     go_wp2_with (first | ((with_reducible refine gate_callee (f := 30) rfl ?_); refine sh_call (some 81) Tryd.func30 #[.agg #[.int .u8 ((rd_T40 l0_1 x10_4).f0), .int .u8 ((rd_T40 l0_1 x10_4).f1), .int .u8 ((rd_T40 l0_1 x10_4).f2), .int .i16 ((rd_T40 l0_1 x10_4).f3), .int .i32 ((rd_T40 l0_1 x10_4).f4)]] ?_; (with_reducible refine (stockaderef02_Of.calls k4 ((rd_T40 l0_1 x10_4).f0) ((rd_T40 l0_1 x10_4).f1) ((rd_T40 l0_1 x10_4).f2) ((rd_T40 l0_1 x10_4).f3) ((rd_T40 l0_1 x10_4).f4) t343 t344 t345 t346 t347 t348 _ A42.out).mono ?_); rintro e w91 ⟨rfl, hb⟩; refine ⟨_, rfl, ?_⟩; replace HO_6 := Aside0.mk (Kd.R_below (by (with_reducible repeat (first | apply Kd.R_alloc | apply Kd.R_drewN | apply Kd.R_drew)); exact HO_6.out) hb); replace BK325 := sh_k BK325 hb; replace HB := sh_b (w := w) hb; (try clear hb); (try clear hb2); (try clear hk); (try clear hi)) | ((with_reducible refine gate_dst (N := 11) rfl ?_); (try (refine gate_guard (by rfl) ?_; dsimp only)); refine sh_box 11 #[.int .i64 0, .int .i64 0, .int .i64 0, .bool false, .bool false] 59 ?_; intro gb349 hg w92 hbox hb; have GW349 := sh_z (w := w) hg; have GE349 := sh_z (w := w) hg; have NB325_349 := sh_n BK325 hg; have NB349_325 := sh_s NB325_349; replace HO_6 := Aside0.mk (Kd.R_below (by (with_reducible repeat (first | apply Kd.R_alloc | apply Kd.R_drewN | apply Kd.R_drew)); exact HO_6.out) hb); replace BK325 := sh_k BK325 hb; replace HB := sh_b (w := w) hb; have BK349 := Aside0.mk (hbox); clear hb hbox hg; have hnb93 := NB349_325.out; have hnc93 := NB325_349.out; have hcz94 := blk_all5 BK349.out; have hcz95 := blk_all2 BK325.out; have p350 : 0 ≤ (x10_4 : Int) := of_decide_eq_true (by first | (with_reducible assumption) | assumption); have q350 : x10_4 < (l0_1.length : Int) := of_decide_eq_true (by first | (with_reducible assumption) | assumption); obtain ⟨ad350, e350, hx350_0, hx350_1, hx350_2, hx350_3, hx350_4⟩ := at_T40 HR0_1.out x10_4 p350 q350; obtain rfl : ad342 = ad350 := (by injection e350); have hn350_0 : ad342.block ≠ gb349 := Nat.ne_of_lt (Nat.lt_of_lt_of_le (by have := World.block_lt_of_cell? _ _ hx350_0; first | rwa [add_block] at this | exact this) GW349.out); have hn350_1 : ad342.block ≠ gb349 := Nat.ne_of_lt (Nat.lt_of_lt_of_le (by have := World.block_lt_of_cell? _ _ hx350_0; first | rwa [add_block] at this | exact this) GW349.out); have hn350_2 : ad342.block ≠ gb349 := Nat.ne_of_lt (Nat.lt_of_lt_of_le (by have := World.block_lt_of_cell? _ _ hx350_0; first | rwa [add_block] at this | exact this) GW349.out); have hn350_3 : ad342.block ≠ gb349 := Nat.ne_of_lt (Nat.lt_of_lt_of_le (by have := World.block_lt_of_cell? _ _ hx350_0; first | rwa [add_block] at this | exact this) GW349.out); have hn350_4 : ad342.block ≠ gb349 := Nat.ne_of_lt (Nat.lt_of_lt_of_le (by have := World.block_lt_of_cell? _ _ hx350_0; first | rwa [add_block] at this | exact this) GW349.out); replace hx350_0 := (HB.out.cell (World.block_lt_of_cell? w _ hx350_0)).trans hx350_0; replace hx350_1 := (HB.out.cell (World.block_lt_of_cell? w _ hx350_1)).trans hx350_1; replace hx350_2 := (HB.out.cell (World.block_lt_of_cell? w _ hx350_2)).trans hx350_2; replace hx350_3 := (HB.out.cell (World.block_lt_of_cell? w _ hx350_3)).trans hx350_3; replace hx350_4 := (HB.out.cell (World.block_lt_of_cell? w _ hx350_4)).trans hx350_4; replace hx350_0 := (cell_far (p := ⟨gb349, 0, none⟩) (by first | (rw [add_block]; exact hn350_0) | (show (Addr.add _ _).block ≠ _; rw [add_block]; exact hn350_0) | exact hn350_0) (.int .i64 t343)).trans hx350_0; replace hx350_1 := (cell_far (p := ⟨gb349, 0, none⟩) (by first | (rw [add_block]; exact hn350_0) | (show (Addr.add _ _).block ≠ _; rw [add_block]; exact hn350_0) | exact hn350_0) (.int .i64 t343)).trans hx350_1; replace hx350_2 := (cell_far (p := ⟨gb349, 0, none⟩) (by first | (rw [add_block]; exact hn350_0) | (show (Addr.add _ _).block ≠ _; rw [add_block]; exact hn350_0) | exact hn350_0) (.int .i64 t343)).trans hx350_2; replace hx350_3 := (cell_far (p := ⟨gb349, 0, none⟩) (by first | (rw [add_block]; exact hn350_0) | (show (Addr.add _ _).block ≠ _; rw [add_block]; exact hn350_0) | exact hn350_0) (.int .i64 t343)).trans hx350_3; replace hx350_4 := (cell_far (p := ⟨gb349, 0, none⟩) (by first | (rw [add_block]; exact hn350_0) | (show (Addr.add _ _).block ≠ _; rw [add_block]; exact hn350_0) | exact hn350_0) (.int .i64 t343)).trans hx350_4; replace hx350_0 := (cell_far (p := ⟨gb349, 1, none⟩) (by first | (rw [add_block]; exact hn350_1) | (show (Addr.add _ _).block ≠ _; rw [add_block]; exact hn350_1) | exact hn350_1) (.int .i64 t344)).trans hx350_0; replace hx350_1 := (cell_far (p := ⟨gb349, 1, none⟩) (by first | (rw [add_block]; exact hn350_1) | (show (Addr.add _ _).block ≠ _; rw [add_block]; exact hn350_1) | exact hn350_1) (.int .i64 t344)).trans hx350_1; replace hx350_2 := (cell_far (p := ⟨gb349, 1, none⟩) (by first | (rw [add_block]; exact hn350_1) | (show (Addr.add _ _).block ≠ _; rw [add_block]; exact hn350_1) | exact hn350_1) (.int .i64 t344)).trans hx350_2; replace hx350_3 := (cell_far (p := ⟨gb349, 1, none⟩) (by first | (rw [add_block]; exact hn350_1) | (show (Addr.add _ _).block ≠ _; rw [add_block]; exact hn350_1) | exact hn350_1) (.int .i64 t344)).trans hx350_3; replace hx350_4 := (cell_far (p := ⟨gb349, 1, none⟩) (by first | (rw [add_block]; exact hn350_1) | (show (Addr.add _ _).block ≠ _; rw [add_block]; exact hn350_1) | exact hn350_1) (.int .i64 t344)).trans hx350_4; replace hx350_0 := (cell_far (p := ⟨gb349, 2, none⟩) (by first | (rw [add_block]; exact hn350_2) | (show (Addr.add _ _).block ≠ _; rw [add_block]; exact hn350_2) | exact hn350_2) (.int .i64 t345)).trans hx350_0; replace hx350_1 := (cell_far (p := ⟨gb349, 2, none⟩) (by first | (rw [add_block]; exact hn350_2) | (show (Addr.add _ _).block ≠ _; rw [add_block]; exact hn350_2) | exact hn350_2) (.int .i64 t345)).trans hx350_1; replace hx350_2 := (cell_far (p := ⟨gb349, 2, none⟩) (by first | (rw [add_block]; exact hn350_2) | (show (Addr.add _ _).block ≠ _; rw [add_block]; exact hn350_2) | exact hn350_2) (.int .i64 t345)).trans hx350_2; replace hx350_3 := (cell_far (p := ⟨gb349, 2, none⟩) (by first | (rw [add_block]; exact hn350_2) | (show (Addr.add _ _).block ≠ _; rw [add_block]; exact hn350_2) | exact hn350_2) (.int .i64 t345)).trans hx350_3; replace hx350_4 := (cell_far (p := ⟨gb349, 2, none⟩) (by first | (rw [add_block]; exact hn350_2) | (show (Addr.add _ _).block ≠ _; rw [add_block]; exact hn350_2) | exact hn350_2) (.int .i64 t345)).trans hx350_4; replace hx350_0 := (cell_far (p := ⟨gb349, 3, none⟩) (by first | (rw [add_block]; exact hn350_3) | (show (Addr.add _ _).block ≠ _; rw [add_block]; exact hn350_3) | exact hn350_3) (.bool t346)).trans hx350_0; replace hx350_1 := (cell_far (p := ⟨gb349, 3, none⟩) (by first | (rw [add_block]; exact hn350_3) | (show (Addr.add _ _).block ≠ _; rw [add_block]; exact hn350_3) | exact hn350_3) (.bool t346)).trans hx350_1; replace hx350_2 := (cell_far (p := ⟨gb349, 3, none⟩) (by first | (rw [add_block]; exact hn350_3) | (show (Addr.add _ _).block ≠ _; rw [add_block]; exact hn350_3) | exact hn350_3) (.bool t346)).trans hx350_2; replace hx350_3 := (cell_far (p := ⟨gb349, 3, none⟩) (by first | (rw [add_block]; exact hn350_3) | (show (Addr.add _ _).block ≠ _; rw [add_block]; exact hn350_3) | exact hn350_3) (.bool t346)).trans hx350_3; replace hx350_4 := (cell_far (p := ⟨gb349, 3, none⟩) (by first | (rw [add_block]; exact hn350_3) | (show (Addr.add _ _).block ≠ _; rw [add_block]; exact hn350_3) | exact hn350_3) (.bool t346)).trans hx350_4; replace hx350_0 := (cell_far (p := ⟨gb349, 4, none⟩) (by first | (rw [add_block]; exact hn350_4) | (show (Addr.add _ _).block ≠ _; rw [add_block]; exact hn350_4) | exact hn350_4) (.bool t347)).trans hx350_0; replace hx350_1 := (cell_far (p := ⟨gb349, 4, none⟩) (by first | (rw [add_block]; exact hn350_4) | (show (Addr.add _ _).block ≠ _; rw [add_block]; exact hn350_4) | exact hn350_4) (.bool t347)).trans hx350_1; replace hx350_2 := (cell_far (p := ⟨gb349, 4, none⟩) (by first | (rw [add_block]; exact hn350_4) | (show (Addr.add _ _).block ≠ _; rw [add_block]; exact hn350_4) | exact hn350_4) (.bool t347)).trans hx350_2; replace hx350_3 := (cell_far (p := ⟨gb349, 4, none⟩) (by first | (rw [add_block]; exact hn350_4) | (show (Addr.add _ _).block ≠ _; rw [add_block]; exact hn350_4) | exact hn350_4) (.bool t347)).trans hx350_3; replace hx350_4 := (cell_far (p := ⟨gb349, 4, none⟩) (by first | (rw [add_block]; exact hn350_4) | (show (Addr.add _ _).block ≠ _; rw [add_block]; exact hn350_4) | exact hn350_4) (.bool t347)).trans hx350_4; clear hn350_0; clear hn350_1; clear hn350_2; clear hn350_3; clear hn350_4; replace p350 := eq_true p350; replace q350 := eq_true q350) | ((with_reducible refine gate_callee (f := 20) rfl ?_); refine sh_call (some 90) Tryd.func20 #[.int .i64 x10_4, .agg #[.int .u8 ((rd_T40 l0_1 x10_4).f0), .int .u8 ((rd_T40 l0_1 x10_4).f1), .int .u8 ((rd_T40 l0_1 x10_4).f2), .int .i16 ((rd_T40 l0_1 x10_4).f3), .int .i32 ((rd_T40 l0_1 x10_4).f4)]] ?_; (with_reducible refine (stockaderef04_Target.calls x10_4 ((rd_T40 l0_1 x10_4).f0) ((rd_T40 l0_1 x10_4).f1) ((rd_T40 l0_1 x10_4).f2) ((rd_T40 l0_1 x10_4).f3) ((rd_T40 l0_1 x10_4).f4) t351 _ A43.out).mono ?_); rintro e w96 ⟨rfl, hb⟩; refine ⟨_, rfl, ?_⟩; replace HO_6 := Aside0.mk (Kd.R_below (by (with_reducible repeat (first | apply Kd.R_alloc | apply Kd.R_drewN | apply Kd.R_drew)); exact (Kd.R_mono (Kd.R_far (p := ⟨gb349, 4, none⟩) (Kd.R_far (p := ⟨gb349, 3, none⟩) (Kd.R_far (p := ⟨gb349, 2, none⟩) (Kd.R_far (p := ⟨gb349, 1, none⟩) (Kd.R_far (p := ⟨gb349, 0, none⟩) (Kd.R_types HO_6.out BK349.out (by decide)) (fun _ hk => hk.2) (.int .i64 t343)) (fun _ hk => hk.2) (.int .i64 t344)) (fun _ hk => hk.2) (.int .i64 t345)) (fun _ hk => hk.2) (.bool t346)) (fun _ hk => hk.2) (.bool t347)) (fun _ h_ => h_.1))) hb); replace BK325 := sh_kp (g := gb325) (t := 25) #[.slice A0_0 l0_0.length c0_0, .slice (some ad342) l0_1.length c0_1] hb; replace BK349 := sh_kp (g := gb349) (t := 59) #[.int .i64 t343, .int .i64 t344, .int .i64 t345, .bool t346, .bool t347] hb; replace HB := sh_b (w := w) hb; (try clear hb); (try clear hb2); (try clear hk); (try clear hi); have hcz97 := blk_all5 BK349.out))
                     go_ret2
                     exact ⟨ret_now, b_now⟩
                    ·rw [if_neg c88] at H
                     have c88b0 : decide (t351 < 0) = false := decide_eq_false c88
                     clear c88
                     by_cases c98 : t351 ≥ (l0_1.length : Int)
                     ·rw [if_pos c98] at H
                      have c98b0 : decide ((l0_1.length : Int) ≤ t351) = true := decide_eq_true c98
                      clear c98
                      simp only [Option.some.injEq, Prod.mk.injEq] at H
                      obtain ⟨rfl, rfl⟩ := H
                      obtain ⟨Ao99, co99, eo99⟩ := Kd.R_slice HO_6.out
                      subst eo99
                      have p341 : 0 ≤ (x10_4 : Int) := of_decide_eq_true (by first | (with_reducible assumption) | assumption)
                      have q341 : x10_4 < (t328.length : Int) := of_decide_eq_true (by first | (with_reducible assumption) | assumption)
                      obtain ⟨ad341, e341, hx341_0⟩ := Kd.at_bool (Kd.R_reads' HO_6.out).2.2 x10_4 p341 q341
                      (try rw [← Nbq39.out] at hx341_0)
                      cases e341
                      replace p341 := eq_true p341
                      replace q341 := eq_true q341
                      have hcz100 := blk_all2 BK325.out
                      have p342 : 0 ≤ (x10_4 : Int) := of_decide_eq_true (by first | (with_reducible assumption) | assumption)
                      have q342 : x10_4 < (l0_1.length : Int) := of_decide_eq_true (by first | (with_reducible assumption) | assumption)
                      obtain ⟨ad342, e342, hx342_0, hx342_1, hx342_2, hx342_3, hx342_4⟩ := at_T40 HR0_1.out x10_4 p342 q342
                      cases e342
                      replace hx342_0 := (HB.out.cell (World.block_lt_of_cell? w _ hx342_0)).trans hx342_0
                      replace hx342_1 := (HB.out.cell (World.block_lt_of_cell? w _ hx342_1)).trans hx342_1
                      replace hx342_2 := (HB.out.cell (World.block_lt_of_cell? w _ hx342_2)).trans hx342_2
                      replace hx342_3 := (HB.out.cell (World.block_lt_of_cell? w _ hx342_3)).trans hx342_3
                      replace hx342_4 := (HB.out.cell (World.block_lt_of_cell? w _ hx342_4)).trans hx342_4
                      replace p342 := eq_true p342
                      replace q342 := eq_true q342
                      go_wp2_with (first | ((with_reducible refine gate_callee (f := 30) rfl ?_); refine sh_call (some 81) Tryd.func30 #[.agg #[.int .u8 ((rd_T40 l0_1 x10_4).f0), .int .u8 ((rd_T40 l0_1 x10_4).f1), .int .u8 ((rd_T40 l0_1 x10_4).f2), .int .i16 ((rd_T40 l0_1 x10_4).f3), .int .i32 ((rd_T40 l0_1 x10_4).f4)]] ?_; (with_reducible refine (stockaderef02_Of.calls k4 ((rd_T40 l0_1 x10_4).f0) ((rd_T40 l0_1 x10_4).f1) ((rd_T40 l0_1 x10_4).f2) ((rd_T40 l0_1 x10_4).f3) ((rd_T40 l0_1 x10_4).f4) t343 t344 t345 t346 t347 t348 _ A42.out).mono ?_); rintro e w101 ⟨rfl, hb⟩; refine ⟨_, rfl, ?_⟩; replace HO_6 := Aside0.mk (Kd.R_below (by (with_reducible repeat (first | apply Kd.R_alloc | apply Kd.R_drewN | apply Kd.R_drew)); exact HO_6.out) hb); replace BK325 := sh_k BK325 hb; replace HB := sh_b (w := w) hb; (try clear hb); (try clear hb2); (try clear hk); (try clear hi)) | ((with_reducible refine gate_dst (N := 11) rfl ?_); (try (refine gate_guard (by rfl) ?_; dsimp only)); refine sh_box 11 #[.int .i64 0, .int .i64 0, .int .i64 0, .bool false, .bool false] 59 ?_; intro gb349 hg w102 hbox hb; have GW349 := sh_z (w := w) hg; have GE349 := sh_z (w := w) hg; have NB325_349 := sh_n BK325 hg; have NB349_325 := sh_s NB325_349; replace HO_6 := Aside0.mk (Kd.R_below (by (with_reducible repeat (first | apply Kd.R_alloc | apply Kd.R_drewN | apply Kd.R_drew)); exact HO_6.out) hb); replace BK325 := sh_k BK325 hb; replace HB := sh_b (w := w) hb; have BK349 := Aside0.mk (hbox); clear hb hbox hg; have hnb103 := NB349_325.out; have hnc103 := NB325_349.out; have hcz104 := blk_all5 BK349.out; have hcz105 := blk_all2 BK325.out; have p350 : 0 ≤ (x10_4 : Int) := of_decide_eq_true (by first | (with_reducible assumption) | assumption); have q350 : x10_4 < (l0_1.length : Int) := of_decide_eq_true (by first | (with_reducible assumption) | assumption); obtain ⟨ad350, e350, hx350_0, hx350_1, hx350_2, hx350_3, hx350_4⟩ := at_T40 HR0_1.out x10_4 p350 q350; obtain rfl : ad342 = ad350 := (by injection e350); have hn350_0 : ad342.block ≠ gb349 := Nat.ne_of_lt (Nat.lt_of_lt_of_le (by have := World.block_lt_of_cell? _ _ hx350_0; first | rwa [add_block] at this | exact this) GW349.out); have hn350_1 : ad342.block ≠ gb349 := Nat.ne_of_lt (Nat.lt_of_lt_of_le (by have := World.block_lt_of_cell? _ _ hx350_0; first | rwa [add_block] at this | exact this) GW349.out); have hn350_2 : ad342.block ≠ gb349 := Nat.ne_of_lt (Nat.lt_of_lt_of_le (by have := World.block_lt_of_cell? _ _ hx350_0; first | rwa [add_block] at this | exact this) GW349.out); have hn350_3 : ad342.block ≠ gb349 := Nat.ne_of_lt (Nat.lt_of_lt_of_le (by have := World.block_lt_of_cell? _ _ hx350_0; first | rwa [add_block] at this | exact this) GW349.out); have hn350_4 : ad342.block ≠ gb349 := Nat.ne_of_lt (Nat.lt_of_lt_of_le (by have := World.block_lt_of_cell? _ _ hx350_0; first | rwa [add_block] at this | exact this) GW349.out); replace hx350_0 := (HB.out.cell (World.block_lt_of_cell? w _ hx350_0)).trans hx350_0; replace hx350_1 := (HB.out.cell (World.block_lt_of_cell? w _ hx350_1)).trans hx350_1; replace hx350_2 := (HB.out.cell (World.block_lt_of_cell? w _ hx350_2)).trans hx350_2; replace hx350_3 := (HB.out.cell (World.block_lt_of_cell? w _ hx350_3)).trans hx350_3; replace hx350_4 := (HB.out.cell (World.block_lt_of_cell? w _ hx350_4)).trans hx350_4; replace hx350_0 := (cell_far (p := ⟨gb349, 0, none⟩) (by first | (rw [add_block]; exact hn350_0) | (show (Addr.add _ _).block ≠ _; rw [add_block]; exact hn350_0) | exact hn350_0) (.int .i64 t343)).trans hx350_0; replace hx350_1 := (cell_far (p := ⟨gb349, 0, none⟩) (by first | (rw [add_block]; exact hn350_0) | (show (Addr.add _ _).block ≠ _; rw [add_block]; exact hn350_0) | exact hn350_0) (.int .i64 t343)).trans hx350_1; replace hx350_2 := (cell_far (p := ⟨gb349, 0, none⟩) (by first | (rw [add_block]; exact hn350_0) | (show (Addr.add _ _).block ≠ _; rw [add_block]; exact hn350_0) | exact hn350_0) (.int .i64 t343)).trans hx350_2; replace hx350_3 := (cell_far (p := ⟨gb349, 0, none⟩) (by first | (rw [add_block]; exact hn350_0) | (show (Addr.add _ _).block ≠ _; rw [add_block]; exact hn350_0) | exact hn350_0) (.int .i64 t343)).trans hx350_3; replace hx350_4 := (cell_far (p := ⟨gb349, 0, none⟩) (by first | (rw [add_block]; exact hn350_0) | (show (Addr.add _ _).block ≠ _; rw [add_block]; exact hn350_0) | exact hn350_0) (.int .i64 t343)).trans hx350_4; replace hx350_0 := (cell_far (p := ⟨gb349, 1, none⟩) (by first | (rw [add_block]; exact hn350_1) | (show (Addr.add _ _).block ≠ _; rw [add_block]; exact hn350_1) | exact hn350_1) (.int .i64 t344)).trans hx350_0; replace hx350_1 := (cell_far (p := ⟨gb349, 1, none⟩) (by first | (rw [add_block]; exact hn350_1) | (show (Addr.add _ _).block ≠ _; rw [add_block]; exact hn350_1) | exact hn350_1) (.int .i64 t344)).trans hx350_1; replace hx350_2 := (cell_far (p := ⟨gb349, 1, none⟩) (by first | (rw [add_block]; exact hn350_1) | (show (Addr.add _ _).block ≠ _; rw [add_block]; exact hn350_1) | exact hn350_1) (.int .i64 t344)).trans hx350_2; replace hx350_3 := (cell_far (p := ⟨gb349, 1, none⟩) (by first | (rw [add_block]; exact hn350_1) | (show (Addr.add _ _).block ≠ _; rw [add_block]; exact hn350_1) | exact hn350_1) (.int .i64 t344)).trans hx350_3; replace hx350_4 := (cell_far (p := ⟨gb349, 1, none⟩) (by first | (rw [add_block]; exact hn350_1) | (show (Addr.add _ _).block ≠ _; rw [add_block]; exact hn350_1) | exact hn350_1) (.int .i64 t344)).trans hx350_4; replace hx350_0 := (cell_far (p := ⟨gb349, 2, none⟩) (by first | (rw [add_block]; exact hn350_2) | (show (Addr.add _ _).block ≠ _; rw [add_block]; exact hn350_2) | exact hn350_2) (.int .i64 t345)).trans hx350_0; replace hx350_1 := (cell_far (p := ⟨gb349, 2, none⟩) (by first | (rw [add_block]; exact hn350_2) | (show (Addr.add _ _).block ≠ _; rw [add_block]; exact hn350_2) | exact hn350_2) (.int .i64 t345)).trans hx350_1; replace hx350_2 := (cell_far (p := ⟨gb349, 2, none⟩) (by first | (rw [add_block]; exact hn350_2) | (show (Addr.add _ _).block ≠ _; rw [add_block]; exact hn350_2) | exact hn350_2) (.int .i64 t345)).trans hx350_2; replace hx350_3 := (cell_far (p := ⟨gb349, 2, none⟩) (by first | (rw [add_block]; exact hn350_2) | (show (Addr.add _ _).block ≠ _; rw [add_block]; exact hn350_2) | exact hn350_2) (.int .i64 t345)).trans hx350_3; replace hx350_4 := (cell_far (p := ⟨gb349, 2, none⟩) (by first | (rw [add_block]; exact hn350_2) | (show (Addr.add _ _).block ≠ _; rw [add_block]; exact hn350_2) | exact hn350_2) (.int .i64 t345)).trans hx350_4; replace hx350_0 := (cell_far (p := ⟨gb349, 3, none⟩) (by first | (rw [add_block]; exact hn350_3) | (show (Addr.add _ _).block ≠ _; rw [add_block]; exact hn350_3) | exact hn350_3) (.bool t346)).trans hx350_0; replace hx350_1 := (cell_far (p := ⟨gb349, 3, none⟩) (by first | (rw [add_block]; exact hn350_3) | (show (Addr.add _ _).block ≠ _; rw [add_block]; exact hn350_3) | exact hn350_3) (.bool t346)).trans hx350_1; replace hx350_2 := (cell_far (p := ⟨gb349, 3, none⟩) (by first | (rw [add_block]; exact hn350_3) | (show (Addr.add _ _).block ≠ _; rw [add_block]; exact hn350_3) | exact hn350_3) (.bool t346)).trans hx350_2; replace hx350_3 := (cell_far (p := ⟨gb349, 3, none⟩) (by first | (rw [add_block]; exact hn350_3) | (show (Addr.add _ _).block ≠ _; rw [add_block]; exact hn350_3) | exact hn350_3) (.bool t346)).trans hx350_3; replace hx350_4 := (cell_far (p := ⟨gb349, 3, none⟩) (by first | (rw [add_block]; exact hn350_3) | (show (Addr.add _ _).block ≠ _; rw [add_block]; exact hn350_3) | exact hn350_3) (.bool t346)).trans hx350_4; replace hx350_0 := (cell_far (p := ⟨gb349, 4, none⟩) (by first | (rw [add_block]; exact hn350_4) | (show (Addr.add _ _).block ≠ _; rw [add_block]; exact hn350_4) | exact hn350_4) (.bool t347)).trans hx350_0; replace hx350_1 := (cell_far (p := ⟨gb349, 4, none⟩) (by first | (rw [add_block]; exact hn350_4) | (show (Addr.add _ _).block ≠ _; rw [add_block]; exact hn350_4) | exact hn350_4) (.bool t347)).trans hx350_1; replace hx350_2 := (cell_far (p := ⟨gb349, 4, none⟩) (by first | (rw [add_block]; exact hn350_4) | (show (Addr.add _ _).block ≠ _; rw [add_block]; exact hn350_4) | exact hn350_4) (.bool t347)).trans hx350_2; replace hx350_3 := (cell_far (p := ⟨gb349, 4, none⟩) (by first | (rw [add_block]; exact hn350_4) | (show (Addr.add _ _).block ≠ _; rw [add_block]; exact hn350_4) | exact hn350_4) (.bool t347)).trans hx350_3; replace hx350_4 := (cell_far (p := ⟨gb349, 4, none⟩) (by first | (rw [add_block]; exact hn350_4) | (show (Addr.add _ _).block ≠ _; rw [add_block]; exact hn350_4) | exact hn350_4) (.bool t347)).trans hx350_4; clear hn350_0; clear hn350_1; clear hn350_2; clear hn350_3; clear hn350_4; replace p350 := eq_true p350; replace q350 := eq_true q350) | ((with_reducible refine gate_callee (f := 20) rfl ?_); refine sh_call (some 90) Tryd.func20 #[.int .i64 x10_4, .agg #[.int .u8 ((rd_T40 l0_1 x10_4).f0), .int .u8 ((rd_T40 l0_1 x10_4).f1), .int .u8 ((rd_T40 l0_1 x10_4).f2), .int .i16 ((rd_T40 l0_1 x10_4).f3), .int .i32 ((rd_T40 l0_1 x10_4).f4)]] ?_; (with_reducible refine (stockaderef04_Target.calls x10_4 ((rd_T40 l0_1 x10_4).f0) ((rd_T40 l0_1 x10_4).f1) ((rd_T40 l0_1 x10_4).f2) ((rd_T40 l0_1 x10_4).f3) ((rd_T40 l0_1 x10_4).f4) t351 _ A43.out).mono ?_); rintro e w106 ⟨rfl, hb⟩; refine ⟨_, rfl, ?_⟩; replace HO_6 := Aside0.mk (Kd.R_below (by (with_reducible repeat (first | apply Kd.R_alloc | apply Kd.R_drewN | apply Kd.R_drew)); exact (Kd.R_mono (Kd.R_far (p := ⟨gb349, 4, none⟩) (Kd.R_far (p := ⟨gb349, 3, none⟩) (Kd.R_far (p := ⟨gb349, 2, none⟩) (Kd.R_far (p := ⟨gb349, 1, none⟩) (Kd.R_far (p := ⟨gb349, 0, none⟩) (Kd.R_types HO_6.out BK349.out (by decide)) (fun _ hk => hk.2) (.int .i64 t343)) (fun _ hk => hk.2) (.int .i64 t344)) (fun _ hk => hk.2) (.int .i64 t345)) (fun _ hk => hk.2) (.bool t346)) (fun _ hk => hk.2) (.bool t347)) (fun _ h_ => h_.1))) hb); replace BK325 := sh_kp (g := gb325) (t := 25) #[.slice A0_0 l0_0.length c0_0, .slice (some ad342) l0_1.length c0_1] hb; replace BK349 := sh_kp (g := gb349) (t := 59) #[.int .i64 t343, .int .i64 t344, .int .i64 t345, .bool t346, .bool t347] hb; replace HB := sh_b (w := w) hb; (try clear hb); (try clear hb2); (try clear hk); (try clear hi); have hcz107 := blk_all5 BK349.out))
                      go_ret2
                      exact ⟨ret_now, b_now⟩
                     ·rw [if_neg c98] at H
                      have c98b0 : decide ((l0_1.length : Int) ≤ t351) = false := decide_eq_false c98
                      clear c98
                      by_cases c108 : 0 ≤ t351
                      ·rw [if_pos c108] at H
                       have c108b0 : decide (0 ≤ t351) = true := decide_eq_true c108
                       clear c108
                       by_cases c109 : t351 < (t328.length : Int)
                       ·rw [if_pos c109] at H
                        have c109b0 : decide (t351 < (t328.length : Int)) = true := decide_eq_true c109
                        clear c109
                        obtain ⟨bq110, hbq110⟩ : ∃ b_ : Bool, b_ = (rdOf false t328 t351) := ⟨_, rfl⟩
                        replace H : (if bq110 = true then (stockaderef04_Check.l2 k4 (l0_1.length : Int) t328 x7_3 (wrap64 (x10_4 + 1)) l0_0 l0_1) else (some (x10_4, 24))) = some (r1, r2) := by rw [← hbq110] at H; exact H
                        have Nbq110 := Aside0.mk hbq110
                        clear hbq110
                        by_cases c111 : bq110 = true
                        ·subst c111
                         replace H := sh_t H
                         have H' := Aside0.mk H
                         clear H
                         obtain ⟨Ao112, co112, eo112⟩ := Kd.R_slice HO_6.out
                         subst eo112
                         have p341 : 0 ≤ (x10_4 : Int) := of_decide_eq_true (by first | (with_reducible assumption) | assumption)
                         have q341 : x10_4 < (t328.length : Int) := of_decide_eq_true (by first | (with_reducible assumption) | assumption)
                         obtain ⟨ad341, e341, hx341_0⟩ := Kd.at_bool (Kd.R_reads' HO_6.out).2.2 x10_4 p341 q341
                         (try rw [← Nbq39.out] at hx341_0)
                         (try rw [← Nbq110.out] at hx341_0)
                         cases e341
                         replace p341 := eq_true p341
                         replace q341 := eq_true q341
                         have hcz113 := blk_all2 BK325.out
                         have p342 : 0 ≤ (x10_4 : Int) := of_decide_eq_true (by first | (with_reducible assumption) | assumption)
                         have q342 : x10_4 < (l0_1.length : Int) := of_decide_eq_true (by first | (with_reducible assumption) | assumption)
                         obtain ⟨ad342, e342, hx342_0, hx342_1, hx342_2, hx342_3, hx342_4⟩ := at_T40 HR0_1.out x10_4 p342 q342
                         cases e342
                         replace hx342_0 := (HB.out.cell (World.block_lt_of_cell? w _ hx342_0)).trans hx342_0
                         replace hx342_1 := (HB.out.cell (World.block_lt_of_cell? w _ hx342_1)).trans hx342_1
                         replace hx342_2 := (HB.out.cell (World.block_lt_of_cell? w _ hx342_2)).trans hx342_2
                         replace hx342_3 := (HB.out.cell (World.block_lt_of_cell? w _ hx342_3)).trans hx342_3
                         replace hx342_4 := (HB.out.cell (World.block_lt_of_cell? w _ hx342_4)).trans hx342_4
                         replace p342 := eq_true p342
                         replace q342 := eq_true q342
                         go_wp2_with (first | ((with_reducible refine gate_callee (f := 30) rfl ?_); refine sh_call (some 81) Tryd.func30 #[.agg #[.int .u8 ((rd_T40 l0_1 x10_4).f0), .int .u8 ((rd_T40 l0_1 x10_4).f1), .int .u8 ((rd_T40 l0_1 x10_4).f2), .int .i16 ((rd_T40 l0_1 x10_4).f3), .int .i32 ((rd_T40 l0_1 x10_4).f4)]] ?_; (with_reducible refine (stockaderef02_Of.calls k4 ((rd_T40 l0_1 x10_4).f0) ((rd_T40 l0_1 x10_4).f1) ((rd_T40 l0_1 x10_4).f2) ((rd_T40 l0_1 x10_4).f3) ((rd_T40 l0_1 x10_4).f4) t343 t344 t345 t346 t347 t348 _ A42.out).mono ?_); rintro e w114 ⟨rfl, hb⟩; refine ⟨_, rfl, ?_⟩; replace HO_6 := Aside0.mk (Kd.R_below (by (with_reducible repeat (first | apply Kd.R_alloc | apply Kd.R_drewN | apply Kd.R_drew)); exact HO_6.out) hb); replace BK325 := sh_k BK325 hb; replace HB := sh_b (w := w) hb; (try clear hb); (try clear hb2); (try clear hk); (try clear hi)) | ((with_reducible refine gate_dst (N := 11) rfl ?_); (try (refine gate_guard (by rfl) ?_; dsimp only)); refine sh_box 11 #[.int .i64 0, .int .i64 0, .int .i64 0, .bool false, .bool false] 59 ?_; intro gb349 hg w115 hbox hb; have GW349 := sh_z (w := w) hg; have GE349 := sh_z (w := w) hg; have NB325_349 := sh_n BK325 hg; have NB349_325 := sh_s NB325_349; replace HO_6 := Aside0.mk (Kd.R_below (by (with_reducible repeat (first | apply Kd.R_alloc | apply Kd.R_drewN | apply Kd.R_drew)); exact HO_6.out) hb); replace BK325 := sh_k BK325 hb; replace HB := sh_b (w := w) hb; have BK349 := Aside0.mk (hbox); clear hb hbox hg; have hnb116 := NB349_325.out; have hnc116 := NB325_349.out; have hcz117 := blk_all5 BK349.out; have hcz118 := blk_all2 BK325.out; have p350 : 0 ≤ (x10_4 : Int) := of_decide_eq_true (by first | (with_reducible assumption) | assumption); have q350 : x10_4 < (l0_1.length : Int) := of_decide_eq_true (by first | (with_reducible assumption) | assumption); obtain ⟨ad350, e350, hx350_0, hx350_1, hx350_2, hx350_3, hx350_4⟩ := at_T40 HR0_1.out x10_4 p350 q350; obtain rfl : ad342 = ad350 := (by injection e350); have hn350_0 : ad342.block ≠ gb349 := Nat.ne_of_lt (Nat.lt_of_lt_of_le (by have := World.block_lt_of_cell? _ _ hx350_0; first | rwa [add_block] at this | exact this) GW349.out); have hn350_1 : ad342.block ≠ gb349 := Nat.ne_of_lt (Nat.lt_of_lt_of_le (by have := World.block_lt_of_cell? _ _ hx350_0; first | rwa [add_block] at this | exact this) GW349.out); have hn350_2 : ad342.block ≠ gb349 := Nat.ne_of_lt (Nat.lt_of_lt_of_le (by have := World.block_lt_of_cell? _ _ hx350_0; first | rwa [add_block] at this | exact this) GW349.out); have hn350_3 : ad342.block ≠ gb349 := Nat.ne_of_lt (Nat.lt_of_lt_of_le (by have := World.block_lt_of_cell? _ _ hx350_0; first | rwa [add_block] at this | exact this) GW349.out); have hn350_4 : ad342.block ≠ gb349 := Nat.ne_of_lt (Nat.lt_of_lt_of_le (by have := World.block_lt_of_cell? _ _ hx350_0; first | rwa [add_block] at this | exact this) GW349.out); replace hx350_0 := (HB.out.cell (World.block_lt_of_cell? w _ hx350_0)).trans hx350_0; replace hx350_1 := (HB.out.cell (World.block_lt_of_cell? w _ hx350_1)).trans hx350_1; replace hx350_2 := (HB.out.cell (World.block_lt_of_cell? w _ hx350_2)).trans hx350_2; replace hx350_3 := (HB.out.cell (World.block_lt_of_cell? w _ hx350_3)).trans hx350_3; replace hx350_4 := (HB.out.cell (World.block_lt_of_cell? w _ hx350_4)).trans hx350_4; replace hx350_0 := (cell_far (p := ⟨gb349, 0, none⟩) (by first | (rw [add_block]; exact hn350_0) | (show (Addr.add _ _).block ≠ _; rw [add_block]; exact hn350_0) | exact hn350_0) (.int .i64 t343)).trans hx350_0; replace hx350_1 := (cell_far (p := ⟨gb349, 0, none⟩) (by first | (rw [add_block]; exact hn350_0) | (show (Addr.add _ _).block ≠ _; rw [add_block]; exact hn350_0) | exact hn350_0) (.int .i64 t343)).trans hx350_1; replace hx350_2 := (cell_far (p := ⟨gb349, 0, none⟩) (by first | (rw [add_block]; exact hn350_0) | (show (Addr.add _ _).block ≠ _; rw [add_block]; exact hn350_0) | exact hn350_0) (.int .i64 t343)).trans hx350_2; replace hx350_3 := (cell_far (p := ⟨gb349, 0, none⟩) (by first | (rw [add_block]; exact hn350_0) | (show (Addr.add _ _).block ≠ _; rw [add_block]; exact hn350_0) | exact hn350_0) (.int .i64 t343)).trans hx350_3; replace hx350_4 := (cell_far (p := ⟨gb349, 0, none⟩) (by first | (rw [add_block]; exact hn350_0) | (show (Addr.add _ _).block ≠ _; rw [add_block]; exact hn350_0) | exact hn350_0) (.int .i64 t343)).trans hx350_4; replace hx350_0 := (cell_far (p := ⟨gb349, 1, none⟩) (by first | (rw [add_block]; exact hn350_1) | (show (Addr.add _ _).block ≠ _; rw [add_block]; exact hn350_1) | exact hn350_1) (.int .i64 t344)).trans hx350_0; replace hx350_1 := (cell_far (p := ⟨gb349, 1, none⟩) (by first | (rw [add_block]; exact hn350_1) | (show (Addr.add _ _).block ≠ _; rw [add_block]; exact hn350_1) | exact hn350_1) (.int .i64 t344)).trans hx350_1; replace hx350_2 := (cell_far (p := ⟨gb349, 1, none⟩) (by first | (rw [add_block]; exact hn350_1) | (show (Addr.add _ _).block ≠ _; rw [add_block]; exact hn350_1) | exact hn350_1) (.int .i64 t344)).trans hx350_2; replace hx350_3 := (cell_far (p := ⟨gb349, 1, none⟩) (by first | (rw [add_block]; exact hn350_1) | (show (Addr.add _ _).block ≠ _; rw [add_block]; exact hn350_1) | exact hn350_1) (.int .i64 t344)).trans hx350_3; replace hx350_4 := (cell_far (p := ⟨gb349, 1, none⟩) (by first | (rw [add_block]; exact hn350_1) | (show (Addr.add _ _).block ≠ _; rw [add_block]; exact hn350_1) | exact hn350_1) (.int .i64 t344)).trans hx350_4; replace hx350_0 := (cell_far (p := ⟨gb349, 2, none⟩) (by first | (rw [add_block]; exact hn350_2) | (show (Addr.add _ _).block ≠ _; rw [add_block]; exact hn350_2) | exact hn350_2) (.int .i64 t345)).trans hx350_0; replace hx350_1 := (cell_far (p := ⟨gb349, 2, none⟩) (by first | (rw [add_block]; exact hn350_2) | (show (Addr.add _ _).block ≠ _; rw [add_block]; exact hn350_2) | exact hn350_2) (.int .i64 t345)).trans hx350_1; replace hx350_2 := (cell_far (p := ⟨gb349, 2, none⟩) (by first | (rw [add_block]; exact hn350_2) | (show (Addr.add _ _).block ≠ _; rw [add_block]; exact hn350_2) | exact hn350_2) (.int .i64 t345)).trans hx350_2; replace hx350_3 := (cell_far (p := ⟨gb349, 2, none⟩) (by first | (rw [add_block]; exact hn350_2) | (show (Addr.add _ _).block ≠ _; rw [add_block]; exact hn350_2) | exact hn350_2) (.int .i64 t345)).trans hx350_3; replace hx350_4 := (cell_far (p := ⟨gb349, 2, none⟩) (by first | (rw [add_block]; exact hn350_2) | (show (Addr.add _ _).block ≠ _; rw [add_block]; exact hn350_2) | exact hn350_2) (.int .i64 t345)).trans hx350_4; replace hx350_0 := (cell_far (p := ⟨gb349, 3, none⟩) (by first | (rw [add_block]; exact hn350_3) | (show (Addr.add _ _).block ≠ _; rw [add_block]; exact hn350_3) | exact hn350_3) (.bool t346)).trans hx350_0; replace hx350_1 := (cell_far (p := ⟨gb349, 3, none⟩) (by first | (rw [add_block]; exact hn350_3) | (show (Addr.add _ _).block ≠ _; rw [add_block]; exact hn350_3) | exact hn350_3) (.bool t346)).trans hx350_1; replace hx350_2 := (cell_far (p := ⟨gb349, 3, none⟩) (by first | (rw [add_block]; exact hn350_3) | (show (Addr.add _ _).block ≠ _; rw [add_block]; exact hn350_3) | exact hn350_3) (.bool t346)).trans hx350_2; replace hx350_3 := (cell_far (p := ⟨gb349, 3, none⟩) (by first | (rw [add_block]; exact hn350_3) | (show (Addr.add _ _).block ≠ _; rw [add_block]; exact hn350_3) | exact hn350_3) (.bool t346)).trans hx350_3; replace hx350_4 := (cell_far (p := ⟨gb349, 3, none⟩) (by first | (rw [add_block]; exact hn350_3) | (show (Addr.add _ _).block ≠ _; rw [add_block]; exact hn350_3) | exact hn350_3) (.bool t346)).trans hx350_4; replace hx350_0 := (cell_far (p := ⟨gb349, 4, none⟩) (by first | (rw [add_block]; exact hn350_4) | (show (Addr.add _ _).block ≠ _; rw [add_block]; exact hn350_4) | exact hn350_4) (.bool t347)).trans hx350_0; replace hx350_1 := (cell_far (p := ⟨gb349, 4, none⟩) (by first | (rw [add_block]; exact hn350_4) | (show (Addr.add _ _).block ≠ _; rw [add_block]; exact hn350_4) | exact hn350_4) (.bool t347)).trans hx350_1; replace hx350_2 := (cell_far (p := ⟨gb349, 4, none⟩) (by first | (rw [add_block]; exact hn350_4) | (show (Addr.add _ _).block ≠ _; rw [add_block]; exact hn350_4) | exact hn350_4) (.bool t347)).trans hx350_2; replace hx350_3 := (cell_far (p := ⟨gb349, 4, none⟩) (by first | (rw [add_block]; exact hn350_4) | (show (Addr.add _ _).block ≠ _; rw [add_block]; exact hn350_4) | exact hn350_4) (.bool t347)).trans hx350_3; replace hx350_4 := (cell_far (p := ⟨gb349, 4, none⟩) (by first | (rw [add_block]; exact hn350_4) | (show (Addr.add _ _).block ≠ _; rw [add_block]; exact hn350_4) | exact hn350_4) (.bool t347)).trans hx350_4; clear hn350_0; clear hn350_1; clear hn350_2; clear hn350_3; clear hn350_4; replace p350 := eq_true p350; replace q350 := eq_true q350) | ((with_reducible refine gate_callee (f := 20) rfl ?_); refine sh_call (some 90) Tryd.func20 #[.int .i64 x10_4, .agg #[.int .u8 ((rd_T40 l0_1 x10_4).f0), .int .u8 ((rd_T40 l0_1 x10_4).f1), .int .u8 ((rd_T40 l0_1 x10_4).f2), .int .i16 ((rd_T40 l0_1 x10_4).f3), .int .i32 ((rd_T40 l0_1 x10_4).f4)]] ?_; (with_reducible refine (stockaderef04_Target.calls x10_4 ((rd_T40 l0_1 x10_4).f0) ((rd_T40 l0_1 x10_4).f1) ((rd_T40 l0_1 x10_4).f2) ((rd_T40 l0_1 x10_4).f3) ((rd_T40 l0_1 x10_4).f4) t351 _ A43.out).mono ?_); rintro e w119 ⟨rfl, hb⟩; refine ⟨_, rfl, ?_⟩; replace HO_6 := Aside0.mk (Kd.R_below (by (with_reducible repeat (first | apply Kd.R_alloc | apply Kd.R_drewN | apply Kd.R_drew)); exact (Kd.R_mono (Kd.R_far (p := ⟨gb349, 4, none⟩) (Kd.R_far (p := ⟨gb349, 3, none⟩) (Kd.R_far (p := ⟨gb349, 2, none⟩) (Kd.R_far (p := ⟨gb349, 1, none⟩) (Kd.R_far (p := ⟨gb349, 0, none⟩) (Kd.R_types HO_6.out BK349.out (by decide)) (fun _ hk => hk.2) (.int .i64 t343)) (fun _ hk => hk.2) (.int .i64 t344)) (fun _ hk => hk.2) (.int .i64 t345)) (fun _ hk => hk.2) (.bool t346)) (fun _ hk => hk.2) (.bool t347)) (fun _ h_ => h_.1))) hb); replace BK325 := sh_kp (g := gb325) (t := 25) #[.slice A0_0 l0_0.length c0_0, .slice (some ad342) l0_1.length c0_1] hb; replace BK349 := sh_kp (g := gb349) (t := 59) #[.int .i64 t343, .int .i64 t344, .int .i64 t345, .bool t346, .bool t347] hb; replace HB := sh_b (w := w) hb; (try clear hb); (try clear hb2); (try clear hk); (try clear hi); have hcz120 := blk_all5 BK349.out; have p353 : 0 ≤ (t351 : Int) := of_decide_eq_true (by first | (with_reducible assumption) | assumption); have q353 : t351 < (t328.length : Int) := of_decide_eq_true (by first | (with_reducible assumption) | assumption); obtain ⟨ad353, e353, hx353_0⟩ := Kd.at_bool (Kd.R_reads' HO_6.out).2.2 t351 p353 q353; (try rw [← Nbq39.out] at hx353_0); (try rw [← Nbq110.out] at hx353_0); obtain rfl : ad341 = ad353 := (by injection e353); replace p353 := eq_true p353; replace q353 := eq_true q353))
                         go_roundg k4
                         case measure => have := HJ4.out; have := HK2.out; have := HK3.out; have := HK4.out; omega
                         case rel => exact ⟨(wrap64 (x10_4 + 1)), eq_now, H', ⟨by have := HJ4.out; have := HK2.out; have := HK3.out; have := HK4.out; omega⟩, ⟨by (with_reducible repeat (first | apply Kd.R_alloc | apply Kd.R_drewN | apply Kd.R_drew)); exact HO_6.out⟩, ⟨bk_now⟩, ⟨b_now⟩⟩
                        ·replace c111 := Bool.eq_false_iff.mpr c111
                         subst c111
                         replace H := sh_f H
                         simp only [Option.some.injEq, Prod.mk.injEq] at H
                         obtain ⟨rfl, rfl⟩ := H
                         obtain ⟨Ao121, co121, eo121⟩ := Kd.R_slice HO_6.out
                         subst eo121
                         have p341 : 0 ≤ (x10_4 : Int) := of_decide_eq_true (by first | (with_reducible assumption) | assumption)
                         have q341 : x10_4 < (t328.length : Int) := of_decide_eq_true (by first | (with_reducible assumption) | assumption)
                         obtain ⟨ad341, e341, hx341_0⟩ := Kd.at_bool (Kd.R_reads' HO_6.out).2.2 x10_4 p341 q341
                         (try rw [← Nbq39.out] at hx341_0)
                         (try rw [← Nbq110.out] at hx341_0)
                         cases e341
                         replace p341 := eq_true p341
                         replace q341 := eq_true q341
                         have hcz122 := blk_all2 BK325.out
                         have p342 : 0 ≤ (x10_4 : Int) := of_decide_eq_true (by first | (with_reducible assumption) | assumption)
                         have q342 : x10_4 < (l0_1.length : Int) := of_decide_eq_true (by first | (with_reducible assumption) | assumption)
                         obtain ⟨ad342, e342, hx342_0, hx342_1, hx342_2, hx342_3, hx342_4⟩ := at_T40 HR0_1.out x10_4 p342 q342
                         cases e342
                         replace hx342_0 := (HB.out.cell (World.block_lt_of_cell? w _ hx342_0)).trans hx342_0
                         replace hx342_1 := (HB.out.cell (World.block_lt_of_cell? w _ hx342_1)).trans hx342_1
                         replace hx342_2 := (HB.out.cell (World.block_lt_of_cell? w _ hx342_2)).trans hx342_2
                         replace hx342_3 := (HB.out.cell (World.block_lt_of_cell? w _ hx342_3)).trans hx342_3
                         replace hx342_4 := (HB.out.cell (World.block_lt_of_cell? w _ hx342_4)).trans hx342_4
                         replace p342 := eq_true p342
                         replace q342 := eq_true q342
                         go_wp2_with (first | ((with_reducible refine gate_callee (f := 30) rfl ?_); refine sh_call (some 81) Tryd.func30 #[.agg #[.int .u8 ((rd_T40 l0_1 x10_4).f0), .int .u8 ((rd_T40 l0_1 x10_4).f1), .int .u8 ((rd_T40 l0_1 x10_4).f2), .int .i16 ((rd_T40 l0_1 x10_4).f3), .int .i32 ((rd_T40 l0_1 x10_4).f4)]] ?_; (with_reducible refine (stockaderef02_Of.calls k4 ((rd_T40 l0_1 x10_4).f0) ((rd_T40 l0_1 x10_4).f1) ((rd_T40 l0_1 x10_4).f2) ((rd_T40 l0_1 x10_4).f3) ((rd_T40 l0_1 x10_4).f4) t343 t344 t345 t346 t347 t348 _ A42.out).mono ?_); rintro e w123 ⟨rfl, hb⟩; refine ⟨_, rfl, ?_⟩; replace HO_6 := Aside0.mk (Kd.R_below (by (with_reducible repeat (first | apply Kd.R_alloc | apply Kd.R_drewN | apply Kd.R_drew)); exact HO_6.out) hb); replace BK325 := sh_k BK325 hb; replace HB := sh_b (w := w) hb; (try clear hb); (try clear hb2); (try clear hk); (try clear hi)) | ((with_reducible refine gate_dst (N := 11) rfl ?_); (try (refine gate_guard (by rfl) ?_; dsimp only)); refine sh_box 11 #[.int .i64 0, .int .i64 0, .int .i64 0, .bool false, .bool false] 59 ?_; intro gb349 hg w124 hbox hb; have GW349 := sh_z (w := w) hg; have GE349 := sh_z (w := w) hg; have NB325_349 := sh_n BK325 hg; have NB349_325 := sh_s NB325_349; replace HO_6 := Aside0.mk (Kd.R_below (by (with_reducible repeat (first | apply Kd.R_alloc | apply Kd.R_drewN | apply Kd.R_drew)); exact HO_6.out) hb); replace BK325 := sh_k BK325 hb; replace HB := sh_b (w := w) hb; have BK349 := Aside0.mk (hbox); clear hb hbox hg; have hnb125 := NB349_325.out; have hnc125 := NB325_349.out; have hcz126 := blk_all5 BK349.out; have hcz127 := blk_all2 BK325.out; have p350 : 0 ≤ (x10_4 : Int) := of_decide_eq_true (by first | (with_reducible assumption) | assumption); have q350 : x10_4 < (l0_1.length : Int) := of_decide_eq_true (by first | (with_reducible assumption) | assumption); obtain ⟨ad350, e350, hx350_0, hx350_1, hx350_2, hx350_3, hx350_4⟩ := at_T40 HR0_1.out x10_4 p350 q350; obtain rfl : ad342 = ad350 := (by injection e350); have hn350_0 : ad342.block ≠ gb349 := Nat.ne_of_lt (Nat.lt_of_lt_of_le (by have := World.block_lt_of_cell? _ _ hx350_0; first | rwa [add_block] at this | exact this) GW349.out); have hn350_1 : ad342.block ≠ gb349 := Nat.ne_of_lt (Nat.lt_of_lt_of_le (by have := World.block_lt_of_cell? _ _ hx350_0; first | rwa [add_block] at this | exact this) GW349.out); have hn350_2 : ad342.block ≠ gb349 := Nat.ne_of_lt (Nat.lt_of_lt_of_le (by have := World.block_lt_of_cell? _ _ hx350_0; first | rwa [add_block] at this | exact this) GW349.out); have hn350_3 : ad342.block ≠ gb349 := Nat.ne_of_lt (Nat.lt_of_lt_of_le (by have := World.block_lt_of_cell? _ _ hx350_0; first | rwa [add_block] at this | exact this) GW349.out); have hn350_4 : ad342.block ≠ gb349 := Nat.ne_of_lt (Nat.lt_of_lt_of_le (by have := World.block_lt_of_cell? _ _ hx350_0; first | rwa [add_block] at this | exact this) GW349.out); replace hx350_0 := (HB.out.cell (World.block_lt_of_cell? w _ hx350_0)).trans hx350_0; replace hx350_1 := (HB.out.cell (World.block_lt_of_cell? w _ hx350_1)).trans hx350_1; replace hx350_2 := (HB.out.cell (World.block_lt_of_cell? w _ hx350_2)).trans hx350_2; replace hx350_3 := (HB.out.cell (World.block_lt_of_cell? w _ hx350_3)).trans hx350_3; replace hx350_4 := (HB.out.cell (World.block_lt_of_cell? w _ hx350_4)).trans hx350_4; replace hx350_0 := (cell_far (p := ⟨gb349, 0, none⟩) (by first | (rw [add_block]; exact hn350_0) | (show (Addr.add _ _).block ≠ _; rw [add_block]; exact hn350_0) | exact hn350_0) (.int .i64 t343)).trans hx350_0; replace hx350_1 := (cell_far (p := ⟨gb349, 0, none⟩) (by first | (rw [add_block]; exact hn350_0) | (show (Addr.add _ _).block ≠ _; rw [add_block]; exact hn350_0) | exact hn350_0) (.int .i64 t343)).trans hx350_1; replace hx350_2 := (cell_far (p := ⟨gb349, 0, none⟩) (by first | (rw [add_block]; exact hn350_0) | (show (Addr.add _ _).block ≠ _; rw [add_block]; exact hn350_0) | exact hn350_0) (.int .i64 t343)).trans hx350_2; replace hx350_3 := (cell_far (p := ⟨gb349, 0, none⟩) (by first | (rw [add_block]; exact hn350_0) | (show (Addr.add _ _).block ≠ _; rw [add_block]; exact hn350_0) | exact hn350_0) (.int .i64 t343)).trans hx350_3; replace hx350_4 := (cell_far (p := ⟨gb349, 0, none⟩) (by first | (rw [add_block]; exact hn350_0) | (show (Addr.add _ _).block ≠ _; rw [add_block]; exact hn350_0) | exact hn350_0) (.int .i64 t343)).trans hx350_4; replace hx350_0 := (cell_far (p := ⟨gb349, 1, none⟩) (by first | (rw [add_block]; exact hn350_1) | (show (Addr.add _ _).block ≠ _; rw [add_block]; exact hn350_1) | exact hn350_1) (.int .i64 t344)).trans hx350_0; replace hx350_1 := (cell_far (p := ⟨gb349, 1, none⟩) (by first | (rw [add_block]; exact hn350_1) | (show (Addr.add _ _).block ≠ _; rw [add_block]; exact hn350_1) | exact hn350_1) (.int .i64 t344)).trans hx350_1; replace hx350_2 := (cell_far (p := ⟨gb349, 1, none⟩) (by first | (rw [add_block]; exact hn350_1) | (show (Addr.add _ _).block ≠ _; rw [add_block]; exact hn350_1) | exact hn350_1) (.int .i64 t344)).trans hx350_2; replace hx350_3 := (cell_far (p := ⟨gb349, 1, none⟩) (by first | (rw [add_block]; exact hn350_1) | (show (Addr.add _ _).block ≠ _; rw [add_block]; exact hn350_1) | exact hn350_1) (.int .i64 t344)).trans hx350_3; replace hx350_4 := (cell_far (p := ⟨gb349, 1, none⟩) (by first | (rw [add_block]; exact hn350_1) | (show (Addr.add _ _).block ≠ _; rw [add_block]; exact hn350_1) | exact hn350_1) (.int .i64 t344)).trans hx350_4; replace hx350_0 := (cell_far (p := ⟨gb349, 2, none⟩) (by first | (rw [add_block]; exact hn350_2) | (show (Addr.add _ _).block ≠ _; rw [add_block]; exact hn350_2) | exact hn350_2) (.int .i64 t345)).trans hx350_0; replace hx350_1 := (cell_far (p := ⟨gb349, 2, none⟩) (by first | (rw [add_block]; exact hn350_2) | (show (Addr.add _ _).block ≠ _; rw [add_block]; exact hn350_2) | exact hn350_2) (.int .i64 t345)).trans hx350_1; replace hx350_2 := (cell_far (p := ⟨gb349, 2, none⟩) (by first | (rw [add_block]; exact hn350_2) | (show (Addr.add _ _).block ≠ _; rw [add_block]; exact hn350_2) | exact hn350_2) (.int .i64 t345)).trans hx350_2; replace hx350_3 := (cell_far (p := ⟨gb349, 2, none⟩) (by first | (rw [add_block]; exact hn350_2) | (show (Addr.add _ _).block ≠ _; rw [add_block]; exact hn350_2) | exact hn350_2) (.int .i64 t345)).trans hx350_3; replace hx350_4 := (cell_far (p := ⟨gb349, 2, none⟩) (by first | (rw [add_block]; exact hn350_2) | (show (Addr.add _ _).block ≠ _; rw [add_block]; exact hn350_2) | exact hn350_2) (.int .i64 t345)).trans hx350_4; replace hx350_0 := (cell_far (p := ⟨gb349, 3, none⟩) (by first | (rw [add_block]; exact hn350_3) | (show (Addr.add _ _).block ≠ _; rw [add_block]; exact hn350_3) | exact hn350_3) (.bool t346)).trans hx350_0; replace hx350_1 := (cell_far (p := ⟨gb349, 3, none⟩) (by first | (rw [add_block]; exact hn350_3) | (show (Addr.add _ _).block ≠ _; rw [add_block]; exact hn350_3) | exact hn350_3) (.bool t346)).trans hx350_1; replace hx350_2 := (cell_far (p := ⟨gb349, 3, none⟩) (by first | (rw [add_block]; exact hn350_3) | (show (Addr.add _ _).block ≠ _; rw [add_block]; exact hn350_3) | exact hn350_3) (.bool t346)).trans hx350_2; replace hx350_3 := (cell_far (p := ⟨gb349, 3, none⟩) (by first | (rw [add_block]; exact hn350_3) | (show (Addr.add _ _).block ≠ _; rw [add_block]; exact hn350_3) | exact hn350_3) (.bool t346)).trans hx350_3; replace hx350_4 := (cell_far (p := ⟨gb349, 3, none⟩) (by first | (rw [add_block]; exact hn350_3) | (show (Addr.add _ _).block ≠ _; rw [add_block]; exact hn350_3) | exact hn350_3) (.bool t346)).trans hx350_4; replace hx350_0 := (cell_far (p := ⟨gb349, 4, none⟩) (by first | (rw [add_block]; exact hn350_4) | (show (Addr.add _ _).block ≠ _; rw [add_block]; exact hn350_4) | exact hn350_4) (.bool t347)).trans hx350_0; replace hx350_1 := (cell_far (p := ⟨gb349, 4, none⟩) (by first | (rw [add_block]; exact hn350_4) | (show (Addr.add _ _).block ≠ _; rw [add_block]; exact hn350_4) | exact hn350_4) (.bool t347)).trans hx350_1; replace hx350_2 := (cell_far (p := ⟨gb349, 4, none⟩) (by first | (rw [add_block]; exact hn350_4) | (show (Addr.add _ _).block ≠ _; rw [add_block]; exact hn350_4) | exact hn350_4) (.bool t347)).trans hx350_2; replace hx350_3 := (cell_far (p := ⟨gb349, 4, none⟩) (by first | (rw [add_block]; exact hn350_4) | (show (Addr.add _ _).block ≠ _; rw [add_block]; exact hn350_4) | exact hn350_4) (.bool t347)).trans hx350_3; replace hx350_4 := (cell_far (p := ⟨gb349, 4, none⟩) (by first | (rw [add_block]; exact hn350_4) | (show (Addr.add _ _).block ≠ _; rw [add_block]; exact hn350_4) | exact hn350_4) (.bool t347)).trans hx350_4; clear hn350_0; clear hn350_1; clear hn350_2; clear hn350_3; clear hn350_4; replace p350 := eq_true p350; replace q350 := eq_true q350) | ((with_reducible refine gate_callee (f := 20) rfl ?_); refine sh_call (some 90) Tryd.func20 #[.int .i64 x10_4, .agg #[.int .u8 ((rd_T40 l0_1 x10_4).f0), .int .u8 ((rd_T40 l0_1 x10_4).f1), .int .u8 ((rd_T40 l0_1 x10_4).f2), .int .i16 ((rd_T40 l0_1 x10_4).f3), .int .i32 ((rd_T40 l0_1 x10_4).f4)]] ?_; (with_reducible refine (stockaderef04_Target.calls x10_4 ((rd_T40 l0_1 x10_4).f0) ((rd_T40 l0_1 x10_4).f1) ((rd_T40 l0_1 x10_4).f2) ((rd_T40 l0_1 x10_4).f3) ((rd_T40 l0_1 x10_4).f4) t351 _ A43.out).mono ?_); rintro e w128 ⟨rfl, hb⟩; refine ⟨_, rfl, ?_⟩; replace HO_6 := Aside0.mk (Kd.R_below (by (with_reducible repeat (first | apply Kd.R_alloc | apply Kd.R_drewN | apply Kd.R_drew)); exact (Kd.R_mono (Kd.R_far (p := ⟨gb349, 4, none⟩) (Kd.R_far (p := ⟨gb349, 3, none⟩) (Kd.R_far (p := ⟨gb349, 2, none⟩) (Kd.R_far (p := ⟨gb349, 1, none⟩) (Kd.R_far (p := ⟨gb349, 0, none⟩) (Kd.R_types HO_6.out BK349.out (by decide)) (fun _ hk => hk.2) (.int .i64 t343)) (fun _ hk => hk.2) (.int .i64 t344)) (fun _ hk => hk.2) (.int .i64 t345)) (fun _ hk => hk.2) (.bool t346)) (fun _ hk => hk.2) (.bool t347)) (fun _ h_ => h_.1))) hb); replace BK325 := sh_kp (g := gb325) (t := 25) #[.slice A0_0 l0_0.length c0_0, .slice (some ad342) l0_1.length c0_1] hb; replace BK349 := sh_kp (g := gb349) (t := 59) #[.int .i64 t343, .int .i64 t344, .int .i64 t345, .bool t346, .bool t347] hb; replace HB := sh_b (w := w) hb; (try clear hb); (try clear hb2); (try clear hk); (try clear hi); have hcz129 := blk_all5 BK349.out; have p353 : 0 ≤ (t351 : Int) := of_decide_eq_true (by first | (with_reducible assumption) | assumption); have q353 : t351 < (t328.length : Int) := of_decide_eq_true (by first | (with_reducible assumption) | assumption); obtain ⟨ad353, e353, hx353_0⟩ := Kd.at_bool (Kd.R_reads' HO_6.out).2.2 t351 p353 q353; (try rw [← Nbq39.out] at hx353_0); (try rw [← Nbq110.out] at hx353_0); obtain rfl : ad341 = ad353 := (by injection e353); replace p353 := eq_true p353; replace q353 := eq_true q353))
                         go_ret2
                         exact ⟨ret_now, b_now⟩
                       ·rw [if_neg c109] at H
                        exact absurd H (by simp)
                      ·rw [if_neg c108] at H
                       exact absurd H (by simp)
                   ·rw [if_neg c87] at H
                    have c87b0 : (t343 == 7) = false := beq_eq_false_iff_ne.mpr c87
                    have c87b1 : (t343 != 7) = true := bne_iff_ne.mpr c87
                    have H' := Aside0.mk H
                    clear H
                    obtain ⟨Ao130, co130, eo130⟩ := Kd.R_slice HO_6.out
                    subst eo130
                    have p341 : 0 ≤ (x10_4 : Int) := of_decide_eq_true (by first | (with_reducible assumption) | assumption)
                    have q341 : x10_4 < (t328.length : Int) := of_decide_eq_true (by first | (with_reducible assumption) | assumption)
                    obtain ⟨ad341, e341, hx341_0⟩ := Kd.at_bool (Kd.R_reads' HO_6.out).2.2 x10_4 p341 q341
                    (try rw [← Nbq39.out] at hx341_0)
                    cases e341
                    replace p341 := eq_true p341
                    replace q341 := eq_true q341
                    have hcz131 := blk_all2 BK325.out
                    have p342 : 0 ≤ (x10_4 : Int) := of_decide_eq_true (by first | (with_reducible assumption) | assumption)
                    have q342 : x10_4 < (l0_1.length : Int) := of_decide_eq_true (by first | (with_reducible assumption) | assumption)
                    obtain ⟨ad342, e342, hx342_0, hx342_1, hx342_2, hx342_3, hx342_4⟩ := at_T40 HR0_1.out x10_4 p342 q342
                    cases e342
                    replace hx342_0 := (HB.out.cell (World.block_lt_of_cell? w _ hx342_0)).trans hx342_0
                    replace hx342_1 := (HB.out.cell (World.block_lt_of_cell? w _ hx342_1)).trans hx342_1
                    replace hx342_2 := (HB.out.cell (World.block_lt_of_cell? w _ hx342_2)).trans hx342_2
                    replace hx342_3 := (HB.out.cell (World.block_lt_of_cell? w _ hx342_3)).trans hx342_3
                    replace hx342_4 := (HB.out.cell (World.block_lt_of_cell? w _ hx342_4)).trans hx342_4
                    replace p342 := eq_true p342
                    replace q342 := eq_true q342
                    go_wp2_with (first | ((with_reducible refine gate_callee (f := 30) rfl ?_); refine sh_call (some 81) Tryd.func30 #[.agg #[.int .u8 ((rd_T40 l0_1 x10_4).f0), .int .u8 ((rd_T40 l0_1 x10_4).f1), .int .u8 ((rd_T40 l0_1 x10_4).f2), .int .i16 ((rd_T40 l0_1 x10_4).f3), .int .i32 ((rd_T40 l0_1 x10_4).f4)]] ?_; (with_reducible refine (stockaderef02_Of.calls k4 ((rd_T40 l0_1 x10_4).f0) ((rd_T40 l0_1 x10_4).f1) ((rd_T40 l0_1 x10_4).f2) ((rd_T40 l0_1 x10_4).f3) ((rd_T40 l0_1 x10_4).f4) t343 t344 t345 t346 t347 t348 _ A42.out).mono ?_); rintro e w132 ⟨rfl, hb⟩; refine ⟨_, rfl, ?_⟩; replace HO_6 := Aside0.mk (Kd.R_below (by (with_reducible repeat (first | apply Kd.R_alloc | apply Kd.R_drewN | apply Kd.R_drew)); exact HO_6.out) hb); replace BK325 := sh_k BK325 hb; replace HB := sh_b (w := w) hb; (try clear hb); (try clear hb2); (try clear hk); (try clear hi)) | ((with_reducible refine gate_dst (N := 11) rfl ?_); (try (refine gate_guard (by rfl) ?_; dsimp only)); refine sh_box 11 #[.int .i64 0, .int .i64 0, .int .i64 0, .bool false, .bool false] 59 ?_; intro gb349 hg w133 hbox hb; have GW349 := sh_z (w := w) hg; have GE349 := sh_z (w := w) hg; have NB325_349 := sh_n BK325 hg; have NB349_325 := sh_s NB325_349; replace HO_6 := Aside0.mk (Kd.R_below (by (with_reducible repeat (first | apply Kd.R_alloc | apply Kd.R_drewN | apply Kd.R_drew)); exact HO_6.out) hb); replace BK325 := sh_k BK325 hb; replace HB := sh_b (w := w) hb; have BK349 := Aside0.mk (hbox); clear hb hbox hg; have hnb134 := NB349_325.out; have hnc134 := NB325_349.out; have hcz135 := blk_all5 BK349.out; have hcz136 := blk_all2 BK325.out; have p350 : 0 ≤ (x10_4 : Int) := of_decide_eq_true (by first | (with_reducible assumption) | assumption); have q350 : x10_4 < (l0_1.length : Int) := of_decide_eq_true (by first | (with_reducible assumption) | assumption); obtain ⟨ad350, e350, hx350_0, hx350_1, hx350_2, hx350_3, hx350_4⟩ := at_T40 HR0_1.out x10_4 p350 q350; obtain rfl : ad342 = ad350 := (by injection e350); have hn350_0 : ad342.block ≠ gb349 := Nat.ne_of_lt (Nat.lt_of_lt_of_le (by have := World.block_lt_of_cell? _ _ hx350_0; first | rwa [add_block] at this | exact this) GW349.out); have hn350_1 : ad342.block ≠ gb349 := Nat.ne_of_lt (Nat.lt_of_lt_of_le (by have := World.block_lt_of_cell? _ _ hx350_0; first | rwa [add_block] at this | exact this) GW349.out); have hn350_2 : ad342.block ≠ gb349 := Nat.ne_of_lt (Nat.lt_of_lt_of_le (by have := World.block_lt_of_cell? _ _ hx350_0; first | rwa [add_block] at this | exact this) GW349.out); have hn350_3 : ad342.block ≠ gb349 := Nat.ne_of_lt (Nat.lt_of_lt_of_le (by have := World.block_lt_of_cell? _ _ hx350_0; first | rwa [add_block] at this | exact this) GW349.out); have hn350_4 : ad342.block ≠ gb349 := Nat.ne_of_lt (Nat.lt_of_lt_of_le (by have := World.block_lt_of_cell? _ _ hx350_0; first | rwa [add_block] at this | exact this) GW349.out); replace hx350_0 := (HB.out.cell (World.block_lt_of_cell? w _ hx350_0)).trans hx350_0; replace hx350_1 := (HB.out.cell (World.block_lt_of_cell? w _ hx350_1)).trans hx350_1; replace hx350_2 := (HB.out.cell (World.block_lt_of_cell? w _ hx350_2)).trans hx350_2; replace hx350_3 := (HB.out.cell (World.block_lt_of_cell? w _ hx350_3)).trans hx350_3; replace hx350_4 := (HB.out.cell (World.block_lt_of_cell? w _ hx350_4)).trans hx350_4; replace hx350_0 := (cell_far (p := ⟨gb349, 0, none⟩) (by first | (rw [add_block]; exact hn350_0) | (show (Addr.add _ _).block ≠ _; rw [add_block]; exact hn350_0) | exact hn350_0) (.int .i64 t343)).trans hx350_0; replace hx350_1 := (cell_far (p := ⟨gb349, 0, none⟩) (by first | (rw [add_block]; exact hn350_0) | (show (Addr.add _ _).block ≠ _; rw [add_block]; exact hn350_0) | exact hn350_0) (.int .i64 t343)).trans hx350_1; replace hx350_2 := (cell_far (p := ⟨gb349, 0, none⟩) (by first | (rw [add_block]; exact hn350_0) | (show (Addr.add _ _).block ≠ _; rw [add_block]; exact hn350_0) | exact hn350_0) (.int .i64 t343)).trans hx350_2; replace hx350_3 := (cell_far (p := ⟨gb349, 0, none⟩) (by first | (rw [add_block]; exact hn350_0) | (show (Addr.add _ _).block ≠ _; rw [add_block]; exact hn350_0) | exact hn350_0) (.int .i64 t343)).trans hx350_3; replace hx350_4 := (cell_far (p := ⟨gb349, 0, none⟩) (by first | (rw [add_block]; exact hn350_0) | (show (Addr.add _ _).block ≠ _; rw [add_block]; exact hn350_0) | exact hn350_0) (.int .i64 t343)).trans hx350_4; replace hx350_0 := (cell_far (p := ⟨gb349, 1, none⟩) (by first | (rw [add_block]; exact hn350_1) | (show (Addr.add _ _).block ≠ _; rw [add_block]; exact hn350_1) | exact hn350_1) (.int .i64 t344)).trans hx350_0; replace hx350_1 := (cell_far (p := ⟨gb349, 1, none⟩) (by first | (rw [add_block]; exact hn350_1) | (show (Addr.add _ _).block ≠ _; rw [add_block]; exact hn350_1) | exact hn350_1) (.int .i64 t344)).trans hx350_1; replace hx350_2 := (cell_far (p := ⟨gb349, 1, none⟩) (by first | (rw [add_block]; exact hn350_1) | (show (Addr.add _ _).block ≠ _; rw [add_block]; exact hn350_1) | exact hn350_1) (.int .i64 t344)).trans hx350_2; replace hx350_3 := (cell_far (p := ⟨gb349, 1, none⟩) (by first | (rw [add_block]; exact hn350_1) | (show (Addr.add _ _).block ≠ _; rw [add_block]; exact hn350_1) | exact hn350_1) (.int .i64 t344)).trans hx350_3; replace hx350_4 := (cell_far (p := ⟨gb349, 1, none⟩) (by first | (rw [add_block]; exact hn350_1) | (show (Addr.add _ _).block ≠ _; rw [add_block]; exact hn350_1) | exact hn350_1) (.int .i64 t344)).trans hx350_4; replace hx350_0 := (cell_far (p := ⟨gb349, 2, none⟩) (by first | (rw [add_block]; exact hn350_2) | (show (Addr.add _ _).block ≠ _; rw [add_block]; exact hn350_2) | exact hn350_2) (.int .i64 t345)).trans hx350_0; replace hx350_1 := (cell_far (p := ⟨gb349, 2, none⟩) (by first | (rw [add_block]; exact hn350_2) | (show (Addr.add _ _).block ≠ _; rw [add_block]; exact hn350_2) | exact hn350_2) (.int .i64 t345)).trans hx350_1; replace hx350_2 := (cell_far (p := ⟨gb349, 2, none⟩) (by first | (rw [add_block]; exact hn350_2) | (show (Addr.add _ _).block ≠ _; rw [add_block]; exact hn350_2) | exact hn350_2) (.int .i64 t345)).trans hx350_2; replace hx350_3 := (cell_far (p := ⟨gb349, 2, none⟩) (by first | (rw [add_block]; exact hn350_2) | (show (Addr.add _ _).block ≠ _; rw [add_block]; exact hn350_2) | exact hn350_2) (.int .i64 t345)).trans hx350_3; replace hx350_4 := (cell_far (p := ⟨gb349, 2, none⟩) (by first | (rw [add_block]; exact hn350_2) | (show (Addr.add _ _).block ≠ _; rw [add_block]; exact hn350_2) | exact hn350_2) (.int .i64 t345)).trans hx350_4; replace hx350_0 := (cell_far (p := ⟨gb349, 3, none⟩) (by first | (rw [add_block]; exact hn350_3) | (show (Addr.add _ _).block ≠ _; rw [add_block]; exact hn350_3) | exact hn350_3) (.bool t346)).trans hx350_0; replace hx350_1 := (cell_far (p := ⟨gb349, 3, none⟩) (by first | (rw [add_block]; exact hn350_3) | (show (Addr.add _ _).block ≠ _; rw [add_block]; exact hn350_3) | exact hn350_3) (.bool t346)).trans hx350_1; replace hx350_2 := (cell_far (p := ⟨gb349, 3, none⟩) (by first | (rw [add_block]; exact hn350_3) | (show (Addr.add _ _).block ≠ _; rw [add_block]; exact hn350_3) | exact hn350_3) (.bool t346)).trans hx350_2; replace hx350_3 := (cell_far (p := ⟨gb349, 3, none⟩) (by first | (rw [add_block]; exact hn350_3) | (show (Addr.add _ _).block ≠ _; rw [add_block]; exact hn350_3) | exact hn350_3) (.bool t346)).trans hx350_3; replace hx350_4 := (cell_far (p := ⟨gb349, 3, none⟩) (by first | (rw [add_block]; exact hn350_3) | (show (Addr.add _ _).block ≠ _; rw [add_block]; exact hn350_3) | exact hn350_3) (.bool t346)).trans hx350_4; replace hx350_0 := (cell_far (p := ⟨gb349, 4, none⟩) (by first | (rw [add_block]; exact hn350_4) | (show (Addr.add _ _).block ≠ _; rw [add_block]; exact hn350_4) | exact hn350_4) (.bool t347)).trans hx350_0; replace hx350_1 := (cell_far (p := ⟨gb349, 4, none⟩) (by first | (rw [add_block]; exact hn350_4) | (show (Addr.add _ _).block ≠ _; rw [add_block]; exact hn350_4) | exact hn350_4) (.bool t347)).trans hx350_1; replace hx350_2 := (cell_far (p := ⟨gb349, 4, none⟩) (by first | (rw [add_block]; exact hn350_4) | (show (Addr.add _ _).block ≠ _; rw [add_block]; exact hn350_4) | exact hn350_4) (.bool t347)).trans hx350_2; replace hx350_3 := (cell_far (p := ⟨gb349, 4, none⟩) (by first | (rw [add_block]; exact hn350_4) | (show (Addr.add _ _).block ≠ _; rw [add_block]; exact hn350_4) | exact hn350_4) (.bool t347)).trans hx350_3; replace hx350_4 := (cell_far (p := ⟨gb349, 4, none⟩) (by first | (rw [add_block]; exact hn350_4) | (show (Addr.add _ _).block ≠ _; rw [add_block]; exact hn350_4) | exact hn350_4) (.bool t347)).trans hx350_4; clear hn350_0; clear hn350_1; clear hn350_2; clear hn350_3; clear hn350_4; replace p350 := eq_true p350; replace q350 := eq_true q350) | ((with_reducible refine gate_callee (f := 20) rfl ?_); refine sh_call (some 90) Tryd.func20 #[.int .i64 x10_4, .agg #[.int .u8 ((rd_T40 l0_1 x10_4).f0), .int .u8 ((rd_T40 l0_1 x10_4).f1), .int .u8 ((rd_T40 l0_1 x10_4).f2), .int .i16 ((rd_T40 l0_1 x10_4).f3), .int .i32 ((rd_T40 l0_1 x10_4).f4)]] ?_; (with_reducible refine (stockaderef04_Target.calls x10_4 ((rd_T40 l0_1 x10_4).f0) ((rd_T40 l0_1 x10_4).f1) ((rd_T40 l0_1 x10_4).f2) ((rd_T40 l0_1 x10_4).f3) ((rd_T40 l0_1 x10_4).f4) t351 _ A43.out).mono ?_); rintro e w137 ⟨rfl, hb⟩; refine ⟨_, rfl, ?_⟩; replace HO_6 := Aside0.mk (Kd.R_below (by (with_reducible repeat (first | apply Kd.R_alloc | apply Kd.R_drewN | apply Kd.R_drew)); exact (Kd.R_mono (Kd.R_far (p := ⟨gb349, 4, none⟩) (Kd.R_far (p := ⟨gb349, 3, none⟩) (Kd.R_far (p := ⟨gb349, 2, none⟩) (Kd.R_far (p := ⟨gb349, 1, none⟩) (Kd.R_far (p := ⟨gb349, 0, none⟩) (Kd.R_types HO_6.out BK349.out (by decide)) (fun _ hk => hk.2) (.int .i64 t343)) (fun _ hk => hk.2) (.int .i64 t344)) (fun _ hk => hk.2) (.int .i64 t345)) (fun _ hk => hk.2) (.bool t346)) (fun _ hk => hk.2) (.bool t347)) (fun _ h_ => h_.1))) hb); replace BK325 := sh_kp (g := gb325) (t := 25) #[.slice A0_0 l0_0.length c0_0, .slice (some ad342) l0_1.length c0_1] hb; replace BK349 := sh_kp (g := gb349) (t := 59) #[.int .i64 t343, .int .i64 t344, .int .i64 t345, .bool t346, .bool t347] hb; replace HB := sh_b (w := w) hb; (try clear hb); (try clear hb2); (try clear hk); (try clear hi); have hcz138 := blk_all5 BK349.out))
                    go_roundg k4
                    case measure => have := HJ4.out; have := HK2.out; have := HK3.out; have := HK4.out; omega
                    case rel => exact ⟨(wrap64 (x10_4 + 1)), eq_now, H', ⟨by have := HJ4.out; have := HK2.out; have := HK3.out; have := HK4.out; omega⟩, ⟨by (with_reducible repeat (first | apply Kd.R_alloc | apply Kd.R_drewN | apply Kd.R_drew)); exact HO_6.out⟩, ⟨bk_now⟩, ⟨b_now⟩⟩
                 ·rw [if_neg c41] at H
                  exact absurd H (by simp)
                ·replace c40 := Bool.eq_false_iff.mpr c40
                 subst c40
                 replace H := sh_f H
                 have H' := Aside0.mk H
                 clear H
                 obtain ⟨Ao139, co139, eo139⟩ := Kd.R_slice HO_6.out
                 subst eo139
                 have p341 : 0 ≤ (x10_4 : Int) := of_decide_eq_true (by first | (with_reducible assumption) | assumption)
                 have q341 : x10_4 < (t328.length : Int) := of_decide_eq_true (by first | (with_reducible assumption) | assumption)
                 obtain ⟨ad341, e341, hx341_0⟩ := Kd.at_bool (Kd.R_reads' HO_6.out).2.2 x10_4 p341 q341
                 (try rw [← Nbq39.out] at hx341_0)
                 cases e341
                 replace p341 := eq_true p341
                 replace q341 := eq_true q341
                 go_wp2
                 go_roundg k4
                 case measure => have := HJ4.out; have := HK2.out; have := HK3.out; have := HK4.out; omega
                 case rel => exact ⟨(wrap64 (x10_4 + 1)), eq_now, H', ⟨by have := HJ4.out; have := HK2.out; have := HK3.out; have := HK4.out; omega⟩, ⟨by (with_reducible repeat (first | apply Kd.R_alloc | apply Kd.R_drewN | apply Kd.R_drew)); exact HO_6.out⟩, ⟨bk_now⟩, ⟨b_now⟩⟩
               ·rw [if_neg c38] at H
                exact absurd H (by simp)
              ·rw [if_neg c37] at H
               exact absurd H (by simp)
             ·rw [if_neg c36] at H
              have c36b0 : decide (x10_4 < (l0_1.length : Int)) = false := decide_eq_false c36
              clear c36
              by_cases c140 : 0 ≤ x7_3
              ·rw [if_pos c140] at H
               have c140b0 : decide (0 ≤ x7_3) = true := decide_eq_true c140
               clear c140
               by_cases c141 : x7_3 < (l0_1.length : Int)
               ·rw [if_pos c141] at H
                have c141b0 : decide (x7_3 < (l0_1.length : Int)) = true := decide_eq_true c141
                clear c141
                replace H := Option.bind_eq_some_iff.mp H; obtain ⟨⟨t334, t335, t336, t337, t338, t339⟩, A1420, H⟩ := H; try dsimp only at H
                have A142 := Aside0.mk A1420
                clear A1420
                by_cases c143 : t334 = 7
                ·rw [if_pos c143] at H
                 have c143b0 : (t334 == 7) = true := beq_iff_eq.mpr c143
                 have c143b1 : (t334 != 7) = false := bne_eq_false_iff_eq.mpr c143
                 clear c143
                 simp only [Option.some.injEq, Prod.mk.injEq] at H
                 obtain ⟨rfl, rfl⟩ := H
                 have hcz144 := blk_all2 BK325.out
                 have p333 : 0 ≤ (x7_3 : Int) := of_decide_eq_true (by first | (with_reducible assumption) | assumption)
                 have q333 : x7_3 < (l0_1.length : Int) := of_decide_eq_true (by first | (with_reducible assumption) | assumption)
                 obtain ⟨ad333, e333, hx333_0, hx333_1, hx333_2, hx333_3, hx333_4⟩ := at_T40 HR0_1.out x7_3 p333 q333
                 cases e333
                 replace hx333_0 := (HB.out.cell (World.block_lt_of_cell? w _ hx333_0)).trans hx333_0
                 replace hx333_1 := (HB.out.cell (World.block_lt_of_cell? w _ hx333_1)).trans hx333_1
                 replace hx333_2 := (HB.out.cell (World.block_lt_of_cell? w _ hx333_2)).trans hx333_2
                 replace hx333_3 := (HB.out.cell (World.block_lt_of_cell? w _ hx333_3)).trans hx333_3
                 replace hx333_4 := (HB.out.cell (World.block_lt_of_cell? w _ hx333_4)).trans hx333_4
                 replace p333 := eq_true p333
                 replace q333 := eq_true q333
                 go_wp2_with (first | ((with_reducible refine gate_callee (f := 30) rfl ?_); refine sh_call (some 122) Tryd.func30 #[.agg #[.int .u8 ((rd_T40 l0_1 x7_3).f0), .int .u8 ((rd_T40 l0_1 x7_3).f1), .int .u8 ((rd_T40 l0_1 x7_3).f2), .int .i16 ((rd_T40 l0_1 x7_3).f3), .int .i32 ((rd_T40 l0_1 x7_3).f4)]] ?_; (with_reducible refine (stockaderef02_Of.calls k4 ((rd_T40 l0_1 x7_3).f0) ((rd_T40 l0_1 x7_3).f1) ((rd_T40 l0_1 x7_3).f2) ((rd_T40 l0_1 x7_3).f3) ((rd_T40 l0_1 x7_3).f4) t334 t335 t336 t337 t338 t339 _ A142.out).mono ?_); rintro e w145 ⟨rfl, hb⟩; refine ⟨_, rfl, ?_⟩; replace HO_6 := Aside0.mk (Kd.R_below (by (with_reducible repeat (first | apply Kd.R_alloc | apply Kd.R_drewN | apply Kd.R_drew)); exact HO_6.out) hb); replace BK325 := sh_k BK325 hb; replace HB := sh_b (w := w) hb; (try clear hb); (try clear hb2); (try clear hk); (try clear hi)) | ((with_reducible refine gate_dst (N := 14) rfl ?_); (try (refine gate_guard (by rfl) ?_; dsimp only)); refine sh_box 14 #[.int .i64 0, .int .i64 0, .int .i64 0, .bool false, .bool false] 59 ?_; intro gb340 hg w146 hbox hb; have GE340 := sh_z (w := w) hg; have NB325_340 := sh_n BK325 hg; have NB340_325 := sh_s NB325_340; replace HO_6 := Aside0.mk (Kd.R_below (by (with_reducible repeat (first | apply Kd.R_alloc | apply Kd.R_drewN | apply Kd.R_drew)); exact HO_6.out) hb); replace BK325 := sh_k BK325 hb; replace HB := sh_b (w := w) hb; have BK340 := Aside0.mk (hbox); clear hb hbox hg; have hnb147 := NB340_325.out; have hnc147 := NB325_340.out; have hcz148 := blk_all5 BK340.out))
                 go_ret2
                 exact ⟨ret_now, b_now⟩
                ·rw [if_neg c143] at H
                 have c143b0 : (t334 == 7) = false := beq_eq_false_iff_ne.mpr c143
                 have c143b1 : (t334 != 7) = true := bne_iff_ne.mpr c143
                 by_cases c149 : t334 = 9
                 ·rw [if_pos c149] at H
                  have c149b0 : (t334 == 9) = true := beq_iff_eq.mpr c149
                  have c149b1 : (t334 != 9) = false := bne_eq_false_iff_eq.mpr c149
                  clear c149
                  simp only [Option.some.injEq, Prod.mk.injEq] at H
                  obtain ⟨rfl, rfl⟩ := H
                  have hcz150 := blk_all2 BK325.out
                  have p333 : 0 ≤ (x7_3 : Int) := of_decide_eq_true (by first | (with_reducible assumption) | assumption)
                  have q333 : x7_3 < (l0_1.length : Int) := of_decide_eq_true (by first | (with_reducible assumption) | assumption)
                  obtain ⟨ad333, e333, hx333_0, hx333_1, hx333_2, hx333_3, hx333_4⟩ := at_T40 HR0_1.out x7_3 p333 q333
                  cases e333
                  replace hx333_0 := (HB.out.cell (World.block_lt_of_cell? w _ hx333_0)).trans hx333_0
                  replace hx333_1 := (HB.out.cell (World.block_lt_of_cell? w _ hx333_1)).trans hx333_1
                  replace hx333_2 := (HB.out.cell (World.block_lt_of_cell? w _ hx333_2)).trans hx333_2
                  replace hx333_3 := (HB.out.cell (World.block_lt_of_cell? w _ hx333_3)).trans hx333_3
                  replace hx333_4 := (HB.out.cell (World.block_lt_of_cell? w _ hx333_4)).trans hx333_4
                  replace p333 := eq_true p333
                  replace q333 := eq_true q333
                  go_wp2_with (first | ((with_reducible refine gate_callee (f := 30) rfl ?_); refine sh_call (some 122) Tryd.func30 #[.agg #[.int .u8 ((rd_T40 l0_1 x7_3).f0), .int .u8 ((rd_T40 l0_1 x7_3).f1), .int .u8 ((rd_T40 l0_1 x7_3).f2), .int .i16 ((rd_T40 l0_1 x7_3).f3), .int .i32 ((rd_T40 l0_1 x7_3).f4)]] ?_; (with_reducible refine (stockaderef02_Of.calls k4 ((rd_T40 l0_1 x7_3).f0) ((rd_T40 l0_1 x7_3).f1) ((rd_T40 l0_1 x7_3).f2) ((rd_T40 l0_1 x7_3).f3) ((rd_T40 l0_1 x7_3).f4) t334 t335 t336 t337 t338 t339 _ A142.out).mono ?_); rintro e w151 ⟨rfl, hb⟩; refine ⟨_, rfl, ?_⟩; replace HO_6 := Aside0.mk (Kd.R_below (by (with_reducible repeat (first | apply Kd.R_alloc | apply Kd.R_drewN | apply Kd.R_drew)); exact HO_6.out) hb); replace BK325 := sh_k BK325 hb; replace HB := sh_b (w := w) hb; (try clear hb); (try clear hb2); (try clear hk); (try clear hi)) | ((with_reducible refine gate_dst (N := 14) rfl ?_); (try (refine gate_guard (by rfl) ?_; dsimp only)); refine sh_box 14 #[.int .i64 0, .int .i64 0, .int .i64 0, .bool false, .bool false] 59 ?_; intro gb340 hg w152 hbox hb; have GE340 := sh_z (w := w) hg; have NB325_340 := sh_n BK325 hg; have NB340_325 := sh_s NB325_340; replace HO_6 := Aside0.mk (Kd.R_below (by (with_reducible repeat (first | apply Kd.R_alloc | apply Kd.R_drewN | apply Kd.R_drew)); exact HO_6.out) hb); replace BK325 := sh_k BK325 hb; replace HB := sh_b (w := w) hb; have BK340 := Aside0.mk (hbox); clear hb hbox hg; have hnb153 := NB340_325.out; have hnc153 := NB325_340.out; have hcz154 := blk_all5 BK340.out))
                  go_ret2
                  exact ⟨ret_now, b_now⟩
                 ·rw [if_neg c149] at H
                  have c149b0 : (t334 == 9) = false := beq_eq_false_iff_ne.mpr c149
                  have c149b1 : (t334 != 9) = true := bne_iff_ne.mpr c149
                  simp only [Option.some.injEq, Prod.mk.injEq] at H
                  obtain ⟨rfl, rfl⟩ := H
                  have hcz155 := blk_all2 BK325.out
                  have p333 : 0 ≤ (x7_3 : Int) := of_decide_eq_true (by first | (with_reducible assumption) | assumption)
                  have q333 : x7_3 < (l0_1.length : Int) := of_decide_eq_true (by first | (with_reducible assumption) | assumption)
                  obtain ⟨ad333, e333, hx333_0, hx333_1, hx333_2, hx333_3, hx333_4⟩ := at_T40 HR0_1.out x7_3 p333 q333
                  cases e333
                  replace hx333_0 := (HB.out.cell (World.block_lt_of_cell? w _ hx333_0)).trans hx333_0
                  replace hx333_1 := (HB.out.cell (World.block_lt_of_cell? w _ hx333_1)).trans hx333_1
                  replace hx333_2 := (HB.out.cell (World.block_lt_of_cell? w _ hx333_2)).trans hx333_2
                  replace hx333_3 := (HB.out.cell (World.block_lt_of_cell? w _ hx333_3)).trans hx333_3
                  replace hx333_4 := (HB.out.cell (World.block_lt_of_cell? w _ hx333_4)).trans hx333_4
                  replace p333 := eq_true p333
                  replace q333 := eq_true q333
                  go_wp2_with (first | ((with_reducible refine gate_callee (f := 30) rfl ?_); refine sh_call (some 122) Tryd.func30 #[.agg #[.int .u8 ((rd_T40 l0_1 x7_3).f0), .int .u8 ((rd_T40 l0_1 x7_3).f1), .int .u8 ((rd_T40 l0_1 x7_3).f2), .int .i16 ((rd_T40 l0_1 x7_3).f3), .int .i32 ((rd_T40 l0_1 x7_3).f4)]] ?_; (with_reducible refine (stockaderef02_Of.calls k4 ((rd_T40 l0_1 x7_3).f0) ((rd_T40 l0_1 x7_3).f1) ((rd_T40 l0_1 x7_3).f2) ((rd_T40 l0_1 x7_3).f3) ((rd_T40 l0_1 x7_3).f4) t334 t335 t336 t337 t338 t339 _ A142.out).mono ?_); rintro e w156 ⟨rfl, hb⟩; refine ⟨_, rfl, ?_⟩; replace HO_6 := Aside0.mk (Kd.R_below (by (with_reducible repeat (first | apply Kd.R_alloc | apply Kd.R_drewN | apply Kd.R_drew)); exact HO_6.out) hb); replace BK325 := sh_k BK325 hb; replace HB := sh_b (w := w) hb; (try clear hb); (try clear hb2); (try clear hk); (try clear hi)) | ((with_reducible refine gate_dst (N := 14) rfl ?_); (try (refine gate_guard (by rfl) ?_; dsimp only)); refine sh_box 14 #[.int .i64 0, .int .i64 0, .int .i64 0, .bool false, .bool false] 59 ?_; intro gb340 hg w157 hbox hb; have GE340 := sh_z (w := w) hg; have NB325_340 := sh_n BK325 hg; have NB340_325 := sh_s NB325_340; replace HO_6 := Aside0.mk (Kd.R_below (by (with_reducible repeat (first | apply Kd.R_alloc | apply Kd.R_drewN | apply Kd.R_drew)); exact HO_6.out) hb); replace BK325 := sh_k BK325 hb; replace HB := sh_b (w := w) hb; have BK340 := Aside0.mk (hbox); clear hb hbox hg; have hnb158 := NB340_325.out; have hnc158 := NB325_340.out; have hcz159 := blk_all5 BK340.out))
                  go_ret2
                  exact ⟨ret_now, b_now⟩
               ·rw [if_neg c141] at H
                exact absurd H (by simp)
              ·rw [if_neg c140] at H
               exact absurd H (by simp)

end Go.Proofs.YtdhiibkcoolbeaaDoor.P
