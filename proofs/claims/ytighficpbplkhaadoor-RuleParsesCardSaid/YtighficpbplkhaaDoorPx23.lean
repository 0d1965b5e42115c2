/- Made by this session's driver over the kit's printer: for each Go function a Lean function with the same answers, and a proof that the Go call comes to these answers; no conditions but the ones each theorem names. -/
import Derived.Test.YtighficpbplkhaaDoorPx0
import Derived.Test.YtighficpbplkhaaDoorPx22
namespace Go.Proofs.YtighficpbplkhaaDoor.P
open Go.RowKit Go.Proofs.YtighficpbplkhaaDoorW.PrintWords Go.Proofs.YtighficpbplkhaaDoorW.PrintLast Go.Proofs.YtighficpbplkhaaDoorW.PrintMore
attribute [local go_sem] max2_int min2_int max_two min_two max_three min_three max_four min_four   -- for this text's walks alone
set_option linter.unusedVariables false
set_option linter.unusedSimpArgs false

/-! ### stockaderef18_May: function 29 -/
mutual
def stockaderef18_May.j0 : Nat → Bool → Bool → Int → Int → Int → Int → Int → Int → Option (Bool)
 | 0, _, _, _, _, _, _, _, _ => none
 | k + 1, x15, x306000, x306001, x306002, x306003, x306004, x306005, x306006 => if x15 = true then (if x306002 = 0 then (if x306003 = 0 then (if x306004 = 0 then (some (decide (x306006 < 4294967296))) else (some false)) else (some false)) else (some false)) else (if x306001 = 3 then (stockaderef18_May.j1 k false x306000 x306001 x306002 x306003 x306004 x306005 x306006) else (stockaderef18_May.j1 k (x306001 != 4) x306000 x306001 x306002 x306003 x306004 x306005 x306006))
def stockaderef18_May.j1 : Nat → Bool → Bool → Int → Int → Int → Int → Int → Int → Option (Bool)
 | 0, _, _, _, _, _, _, _, _ => none
 | k + 1, x41, x306000, x306001, x306002, x306003, x306004, x306005, x306006 => if x41 = true then (some false) else (if x306003 = 1 then (stockaderef18_May.j2 k false x306000 x306001 x306002 x306003 x306004 x306005 x306006) else (if x306003 = 2 then (stockaderef18_May.j2 k false x306000 x306001 x306002 x306003 x306004 x306005 x306006) else (if x306003 = 4 then (stockaderef18_May.j2 k false x306000 x306001 x306002 x306003 x306004 x306005 x306006) else (stockaderef18_May.j2 k (x306003 != 8) x306000 x306001 x306002 x306003 x306004 x306005 x306006))))
def stockaderef18_May.j2 : Nat → Bool → Bool → Int → Int → Int → Int → Int → Int → Option (Bool)
 | 0, _, _, _, _, _, _, _, _ => none
 | k + 1, x59, x306000, x306001, x306002, x306003, x306004, x306005, x306006 => if x59 = true then (some false) else (if x306002 ≥ 0 then (if x306002 ≤ 255 then (if x306004 > 0 then ((stockaderef18_Full.f k x306003).bind fun t306 => (if x306004 ≤ t306 then ((stockaderef18_Full.f k x306003).bind fun t307 => (some (decide (x306006 ≤ t307)))) else (some false))) else (some false)) else (some false)) else (some false))
end
def stockaderef18_May.f (k : Nat) (a0_0 : Bool) (a0_1 : Int) (a0_2 : Int) (a0_3 : Int) (a0_4 : Int) (a0_5 : Int) (a0_6 : Int) : Option (Bool) := if a0_5 > a0_6 then (some false) else (if a0_1 = 1 then (stockaderef18_May.j0 k true a0_0 a0_1 a0_2 a0_3 a0_4 a0_5 a0_6) else (stockaderef18_May.j0 k (a0_1 == 2) a0_0 a0_1 a0_2 a0_3 a0_4 a0_5 a0_6))
theorem stockaderef18_May.mono_l : ∀ k, (∀ y0 y1 y2 y3 y4 y5 y6 y7, LeO (stockaderef18_May.j0 k y0 y1 y2 y3 y4 y5 y6 y7) (stockaderef18_May.j0 (k + 1) y0 y1 y2 y3 y4 y5 y6 y7)) ∧ (∀ y0 y1 y2 y3 y4 y5 y6 y7, LeO (stockaderef18_May.j1 k y0 y1 y2 y3 y4 y5 y6 y7) (stockaderef18_May.j1 (k + 1) y0 y1 y2 y3 y4 y5 y6 y7)) ∧ (∀ y0 y1 y2 y3 y4 y5 y6 y7, LeO (stockaderef18_May.j2 k y0 y1 y2 y3 y4 y5 y6 y7) (stockaderef18_May.j2 (k + 1) y0 y1 y2 y3 y4 y5 y6 y7))
 | 0 => ⟨fun _ _ _ _ _ _ _ _ r h => by simp [stockaderef18_May.j0] at h, fun _ _ _ _ _ _ _ _ r h => by simp [stockaderef18_May.j1] at h, fun _ _ _ _ _ _ _ _ r h => by simp [stockaderef18_May.j2] at h⟩
 | k + 1 => by
  obtain ⟨ih0, ih1, ih2⟩ := stockaderef18_May.mono_l k
  refine ⟨?_, ?_, ?_⟩
  ·intro y0 y1 y2 y3 y4 y5 y6 y7
   unfold stockaderef18_May.j0
   repeat' first
   | (with_reducible exact ih0 _ _ _ _ _ _ _ _)
   | (with_reducible exact ih1 _ _ _ _ _ _ _ _)
   | (with_reducible exact ih2 _ _ _ _ _ _ _ _)
   | (with_reducible exact stockaderef18_Full.mono _ _)
   | (with_reducible exact LeO.refl _)
   | (with_reducible exact LeO.none _)
   | (with_reducible refine LeO.ite ?_ ?_)
   | (with_reducible refine LeO.bind ?_ (fun _ => ?_))
   | exact ih0 _ _ _ _ _ _ _ _
   | exact ih1 _ _ _ _ _ _ _ _
   | exact ih2 _ _ _ _ _ _ _ _
   | exact stockaderef18_Full.mono _ _
   | exact LeO.none _
   | refine LeO.ite ?_ ?_
   | refine LeO.bind ?_ (fun _ => ?_)
  ·intro y0 y1 y2 y3 y4 y5 y6 y7
   unfold stockaderef18_May.j1
   repeat' first
   | (with_reducible exact ih0 _ _ _ _ _ _ _ _)
   | (with_reducible exact ih1 _ _ _ _ _ _ _ _)
   | (with_reducible exact ih2 _ _ _ _ _ _ _ _)
   | (with_reducible exact stockaderef18_Full.mono _ _)
   | (with_reducible exact LeO.refl _)
   | (with_reducible exact LeO.none _)
   | (with_reducible refine LeO.ite ?_ ?_)
   | (with_reducible refine LeO.bind ?_ (fun _ => ?_))
   | exact ih0 _ _ _ _ _ _ _ _
   | exact ih1 _ _ _ _ _ _ _ _
   | exact ih2 _ _ _ _ _ _ _ _
   | exact stockaderef18_Full.mono _ _
   | exact LeO.none _
   | refine LeO.ite ?_ ?_
   | refine LeO.bind ?_ (fun _ => ?_)
  ·intro y0 y1 y2 y3 y4 y5 y6 y7
   unfold stockaderef18_May.j2
   repeat' first
   | (with_reducible exact ih0 _ _ _ _ _ _ _ _)
   | (with_reducible exact ih1 _ _ _ _ _ _ _ _)
   | (with_reducible exact ih2 _ _ _ _ _ _ _ _)
   | (with_reducible exact stockaderef18_Full.mono _ _)
   | (with_reducible exact LeO.refl _)
   | (with_reducible exact LeO.none _)
   | (with_reducible refine LeO.ite ?_ ?_)
   | (with_reducible refine LeO.bind ?_ (fun _ => ?_))
   | exact ih0 _ _ _ _ _ _ _ _
   | exact ih1 _ _ _ _ _ _ _ _
   | exact ih2 _ _ _ _ _ _ _ _
   | exact stockaderef18_Full.mono _ _
   | exact LeO.none _
   | refine LeO.ite ?_ ?_
   | refine LeO.bind ?_ (fun _ => ?_)
theorem stockaderef18_May.mono : ∀ a0 a1 a2 a3 a4 a5 a6 k, LeO (stockaderef18_May.f k a0 a1 a2 a3 a4 a5 a6) (stockaderef18_May.f (k + 1) a0 a1 a2 a3 a4 a5 a6) := by
 intro a0 a1 a2 a3 a4 a5 a6 k
 obtain ⟨ih0, ih1, ih2⟩ := stockaderef18_May.mono_l k
 unfold stockaderef18_May.f
 repeat' first
   | (with_reducible exact ih0 _ _ _ _ _ _ _ _)
   | (with_reducible exact ih1 _ _ _ _ _ _ _ _)
   | (with_reducible exact ih2 _ _ _ _ _ _ _ _)
   | (with_reducible exact stockaderef18_Full.mono _ _)
   | (with_reducible exact LeO.refl _)
   | (with_reducible exact LeO.none _)
   | (with_reducible refine LeO.ite ?_ ?_)
   | (with_reducible refine LeO.bind ?_ (fun _ => ?_))
   | exact ih0 _ _ _ _ _ _ _ _
   | exact ih1 _ _ _ _ _ _ _ _
   | exact ih2 _ _ _ _ _ _ _ _
   | exact stockaderef18_Full.mono _ _
   | exact LeO.none _
   | refine LeO.ite ?_ ?_
   | refine LeO.bind ?_ (fun _ => ?_)
def stockaderef18_May.T9 : Bool × List (List Nat × List Nat) := (true, [([], []), ([0], [0]), ([1], [1]), ([2], [2]), ([3], [3]), ([4, 3], [3, 4]), ([5, 3], [3, 5]), ([3, 6], [3, 6]), ([7, 3], [7]), ([8], [8]), ([9, 8], [8, 9]), ([10, 8], [8, 10]), ([8, 11], [8, 11]), ([12, 8], [12]), ([13], [13]), ([14, 13], [13, 14]), ([13], [13]), ([16, 13], [13, 16]), ([17, 13, 13], [13, 17]), ([15, 18, 13], [13, 15, 18]), ([13, 19], [13, 19]), ([20, 18], [20]), ([21], [21]), ([22, 21], [21, 22]), ([21], [21]), ([24, 21], [21, 24]), ([25, 21, 21], [21, 25]), ([23, 26, 21], [21, 23, 26]), ([21, 27], [21, 27]), ([28, 26, 0, 1, 2, 3, 4, 5, 6, 7, 8, 9, 10, 11, 12, 13, 14, 15, 16, 17, 18, 19, 20, 21, 22, 23, 24, 25, 26, 27, 28], [28])])
def stockaderef18_May.B9 : List Nat := [0, 1, 3, 7, 15, 31, 63, 127, 255, 511, 1023, 2047, 4095, 8191, 16383, 32767, 16383, 81919, 212991, 524287, 1048575, 2097151, 4194303, 8388607, 4194303, 20971519, 54525951, 134217727, 268435455, 536870911]
theorem stockaderef18_May.tab9 : rtab .any (opsOf Tryd.f29 9) = stockaderef18_May.T9 := by kernel_rfl
theorem stockaderef18_May.bits9 : waitsOk stockaderef18_May.T9.2 stockaderef18_May.B9 = true := by kernel_rfl
set_option maxHeartbeats 8000000 in
set_option maxRecDepth 100000 in
theorem stockaderef18_May.calls (k : Nat) (a0_0 : Bool) (a0_1 : Int) (a0_2 : Int) (a0_3 : Int) (a0_4 : Int) (a0_5 : Int) (a0_6 : Int) (r : Bool) (w : World) (h : stockaderef18_May.f k a0_0 a0_1 a0_2 a0_3 a0_4 a0_5 a0_6 = some r) :
  Calls Tryd.prog 29 #[.agg #[.bool a0_0, .int .i64 a0_1, .int .i64 a0_2, .int .i64 a0_3, .int .u64 a0_4, .int .u64 a0_5, .int .u64 a0_6]] w fun e w' => e = .returned (.bool r) ∧ Below w.heap.size w w' := by
 have hu55 := Tryd.underlying55
 have HB := Aside0.mk (Below.refl w.heap.size w)
 have H : (if a0_5 > a0_6 then (some false) else (if a0_1 = 1 then (stockaderef18_May.j0 k true a0_0 a0_1 a0_2 a0_3 a0_4 a0_5 a0_6) else (stockaderef18_May.j0 k (a0_1 == 2) a0_0 a0_1 a0_2 a0_3 a0_4 a0_5 a0_6))) = some r := h
 clear h
 by_cases c2 : a0_5 > a0_6
 ·rw [if_pos c2] at H
  have c2b0 : decide (a0_6 < a0_5) = true := decide_eq_true c2
  clear c2
  obtain rfl := Option.some.inj H
  go_enter Tryd.func29, Tryd.ntmps29
  go_wp2_with (first | ((with_reducible refine gate_dst (N := 1) rfl ?_); refine sh_box 1 #[.bool a0_0, .int .i64 a0_1, .int .i64 a0_2, .int .i64 a0_3, .int .u64 a0_4, .int .u64 a0_5, .int .u64 a0_6] 55 ?_; intro gb305 hg w3 hbox hb; have GE305 := sh_z (w := w) hg; replace HB := sh_b (w := w) hb; have BK305 := Aside0.mk (hbox); clear hb hbox hg; have hcz4 := blk_all7 BK305.out))
  go_ret
  exact ⟨ret_now, b_now⟩
 ·rw [if_neg c2] at H
  have c2b0 : decide (a0_6 < a0_5) = false := decide_eq_false c2
  clear c2
  have HC5 := Aside0.mk H
  clear H
  go_enter Tryd.func29, Tryd.ntmps29
  go_upto_region 3 with (first | ((with_reducible refine gate_dst (N := 1) rfl ?_); refine sh_box 1 #[.bool a0_0, .int .i64 a0_1, .int .i64 a0_2, .int .i64 a0_3, .int .u64 a0_4, .int .u64 a0_5, .int .u64 a0_6] 55 ?_; intro gb305 hg w6 hbox hb; have GE305 := sh_z (w := w) hg; replace HB := sh_b (w := w) hb; have BK305 := Aside0.mk (hbox); clear hb hbox hg; have hcz7 := blk_all7 BK305.out))
  (try simp only [Act.put, List.setIfInBounds_toArray, List.set_cons_zero, List.set_cons_succ])
  go_cut [15] (fun v15 wc => ∃ (kq : Nat) (x15_4 : Bool), v15 = .bool x15_4 ∧ Aside0 (stockaderef18_May.j0 kq x15_4 a0_0 a0_1 a0_2 a0_3 a0_4 a0_5 a0_6 = some r) ∧ Aside0 (kq ≤ k) ∧ Aside0 (wc.heap[gb305]? = some (.cells #[.bool a0_0, .int .i64 a0_1, .int .i64 a0_2, .int .i64 a0_3, .int .u64 a0_4, .int .u64 a0_5, .int .u64 a0_6] 55 (0, 0))) ∧ Aside0 (Below w.heap.size w wc))
  case first =>
   have H := HC5.out
   clear HC5
   by_cases c8 : a0_1 = 1
   ·rw [if_pos c8] at H
    have c8b0 : (a0_1 == 1) = true := beq_iff_eq.mpr c8
    have c8b1 : (a0_1 != 1) = false := bne_eq_false_iff_eq.mpr c8
    clear c8
    (first | rw [c8b0] | (simp only [i64_w, i32_w]; rw [c8b0]) | skip)
    have H' := Aside0.mk H
    clear H
    have hcz9 := blk_all7 BK305.out
    go_wp2
    go_meet
    case rel => exact ⟨_, (true), eq_now, H', ⟨by first | omega | exact Nat.le_refl _⟩, ⟨bk_now⟩, ⟨b_now⟩⟩
   ·rw [if_neg c8] at H
    have c8b0 : (a0_1 == 1) = false := beq_eq_false_iff_ne.mpr c8
    have c8b1 : (a0_1 != 1) = true := bne_iff_ne.mpr c8
    (first | rw [c8b0] | (simp only [i64_w, i32_w]; rw [c8b0]) | skip)
    have H' := Aside0.mk H
    clear H
    have hcz10 := blk_all7 BK305.out
    go_wp2
    go_meet
    case rel => exact ⟨_, ((a0_1 == 2)), eq_now, H', ⟨by first | omega | exact Nat.le_refl _⟩, ⟨bk_now⟩, ⟨b_now⟩⟩
  case rest =>
   clear HC5
   clear c2b0 hcz7
   obtain ⟨kq, x15_4, rfl, HA, HJ4, BK305, HB⟩ := hcut
   cases kq with
   | zero => exact absurd HA.out (by simp [stockaderef18_May.j0])
   | succ kj4 =>
    have H := HA.out
    clear HA
    simp only [stockaderef18_May.j0] at H
    by_cases c11 : x15_4 = true
    ·subst c11
     replace H := sh_t H
     by_cases c12 : a0_2 = 0
     ·rw [if_pos c12] at H
      have c12b0 : (a0_2 == 0) = true := beq_iff_eq.mpr c12
      have c12b1 : (a0_2 != 0) = false := bne_eq_false_iff_eq.mpr c12
      clear c12
      by_cases c13 : a0_3 = 0
      ·rw [if_pos c13] at H
       have c13b0 : (a0_3 == 0) = true := beq_iff_eq.mpr c13
       have c13b1 : (a0_3 != 0) = false := bne_eq_false_iff_eq.mpr c13
       clear c13
       by_cases c14 : a0_4 = 0
       ·rw [if_pos c14] at H
        have c14b0 : (a0_4 == 0) = true := beq_iff_eq.mpr c14
        have c14b1 : (a0_4 != 0) = false := bne_eq_false_iff_eq.mpr c14
        clear c14
        obtain rfl := Option.some.inj H
        have hcz15 := blk_all7 BK305.out
        go_wp2
        go_ret
        exact ⟨ret_now, b_now⟩
       ·rw [if_neg c14] at H
        have c14b0 : (a0_4 == 0) = false := beq_eq_false_iff_ne.mpr c14
        have c14b1 : (a0_4 != 0) = true := bne_iff_ne.mpr c14
        obtain rfl := Option.some.inj H
        have hcz16 := blk_all7 BK305.out
        go_wp2
        go_ret
        exact ⟨ret_now, b_now⟩
      ·rw [if_neg c13] at H
       have c13b0 : (a0_3 == 0) = false := beq_eq_false_iff_ne.mpr c13
       have c13b1 : (a0_3 != 0) = true := bne_iff_ne.mpr c13
       obtain rfl := Option.some.inj H
       have hcz17 := blk_all7 BK305.out
       go_wp2
       go_ret
       exact ⟨ret_now, b_now⟩
     ·rw [if_neg c12] at H
      have c12b0 : (a0_2 == 0) = false := beq_eq_false_iff_ne.mpr c12
      have c12b1 : (a0_2 != 0) = true := bne_iff_ne.mpr c12
      obtain rfl := Option.some.inj H
      have hcz18 := blk_all7 BK305.out
      go_wp2
      go_ret
      exact ⟨ret_now, b_now⟩
    ·replace c11 := Bool.eq_false_iff.mpr c11
     subst c11
     replace H := sh_f H
     have HC19 := Aside0.mk H
     clear H
     go_upto_region 5 with (fail)
     go_cut [41] (fun v41 wc => ∃ (kq : Nat) (x41_18 : Bool), v41 = .bool x41_18 ∧ Aside0 (stockaderef18_May.j1 kq x41_18 a0_0 a0_1 a0_2 a0_3 a0_4 a0_5 a0_6 = some r) ∧ Aside0 (kq ≤ kj4) ∧ Aside0 (wc.heap[gb305]? = some (.cells #[.bool a0_0, .int .i64 a0_1, .int .i64 a0_2, .int .i64 a0_3, .int .u64 a0_4, .int .u64 a0_5, .int .u64 a0_6] 55 (0, 0))) ∧ Aside0 (Below w.heap.size w wc))
     case first =>
      have H := HC19.out
      clear HC19
      by_cases c20 : a0_1 = 3
      ·rw [if_pos c20] at H
       have c20b0 : (a0_1 == 3) = true := beq_iff_eq.mpr c20
       have c20b1 : (a0_1 != 3) = false := bne_eq_false_iff_eq.mpr c20
       clear c20
       (first | rw [c20b0] | (simp only [i64_w, i32_w]; rw [c20b0]) | skip)
       have H' := Aside0.mk H
       clear H
       have hcz21 := blk_all7 BK305.out
       go_wp2
       go_meet
       case rel => exact ⟨_, (false), eq_now, H', ⟨by have := HJ4.out; first | omega | exact Nat.le_refl _⟩, ⟨bk_now⟩, ⟨b_now⟩⟩
      ·rw [if_neg c20] at H
       have c20b0 : (a0_1 == 3) = false := beq_eq_false_iff_ne.mpr c20
       have c20b1 : (a0_1 != 3) = true := bne_iff_ne.mpr c20
       (first | rw [c20b0] | (simp only [i64_w, i32_w]; rw [c20b0]) | skip)
       have H' := Aside0.mk H
       clear H
       have hcz22 := blk_all7 BK305.out
       go_wp2
       go_meet
       case rel => exact ⟨_, ((a0_1 != 4)), eq_now, H', ⟨by have := HJ4.out; first | omega | exact Nat.le_refl _⟩, ⟨bk_now⟩, ⟨b_now⟩⟩
     case rest =>
      clear HC19
      obtain ⟨kq, x41_18, rfl, HA, HJ18, BK305, HB⟩ := hcut
      cases kq with
      | zero => exact absurd HA.out (by simp [stockaderef18_May.j1])
      | succ kj18 =>
       have H := HA.out
       clear HA
       simp only [stockaderef18_May.j1] at H
       by_cases c23 : x41_18 = true
       ·subst c23
        replace H := sh_t H
        obtain rfl := Option.some.inj H
        go_wp2
        go_ret
        exact ⟨ret_now, b_now⟩
       ·replace c23 := Bool.eq_false_iff.mpr c23
        subst c23
        replace H := sh_f H
        have HC24 := Aside0.mk H
        clear H
        go_upto_region 7 with (fail)
        go_cut [59] (fun v59 wc => ∃ (kq : Nat) (x59_23 : Bool), v59 = .bool x59_23 ∧ Aside0 (stockaderef18_May.j2 kq x59_23 a0_0 a0_1 a0_2 a0_3 a0_4 a0_5 a0_6 = some r) ∧ Aside0 (kq ≤ kj18) ∧ Aside0 (wc.heap[gb305]? = some (.cells #[.bool a0_0, .int .i64 a0_1, .int .i64 a0_2, .int .i64 a0_3, .int .u64 a0_4, .int .u64 a0_5, .int .u64 a0_6] 55 (0, 0))) ∧ Aside0 (Below w.heap.size w wc))
        case first =>
         have H := HC24.out
         clear HC24
         by_cases c25 : a0_3 = 1
         ·rw [if_pos c25] at H
          have c25b0 : (a0_3 == 1) = true := beq_iff_eq.mpr c25
          have c25b1 : (a0_3 != 1) = false := bne_eq_false_iff_eq.mpr c25
          clear c25
          (first | rw [c25b0] | (simp only [i64_w, i32_w]; rw [c25b0]) | skip)
          have H' := Aside0.mk H
          clear H
          have hcz26 := blk_all7 BK305.out
          go_wp2
          go_meet
          case rel => exact ⟨_, (false), eq_now, H', ⟨by have := HJ4.out; have := HJ18.out; first | omega | exact Nat.le_refl _⟩, ⟨bk_now⟩, ⟨b_now⟩⟩
         ·rw [if_neg c25] at H
          have c25b0 : (a0_3 == 1) = false := beq_eq_false_iff_ne.mpr c25
          have c25b1 : (a0_3 != 1) = true := bne_iff_ne.mpr c25
          (first | rw [c25b0] | (simp only [i64_w, i32_w]; rw [c25b0]) | skip)
          by_cases c27 : a0_3 = 2
          ·rw [if_pos c27] at H
           have c27b0 : (a0_3 == 2) = true := beq_iff_eq.mpr c27
           have c27b1 : (a0_3 != 2) = false := bne_eq_false_iff_eq.mpr c27
           clear c27
           have H' := Aside0.mk H
           clear H
           have hcz28 := blk_all7 BK305.out
           go_wp2
           go_meet
           case rel => exact ⟨_, (false), eq_now, H', ⟨by have := HJ4.out; have := HJ18.out; first | omega | exact Nat.le_refl _⟩, ⟨bk_now⟩, ⟨b_now⟩⟩
          ·rw [if_neg c27] at H
           have c27b0 : (a0_3 == 2) = false := beq_eq_false_iff_ne.mpr c27
           have c27b1 : (a0_3 != 2) = true := bne_iff_ne.mpr c27
           by_cases c29 : a0_3 = 4
           ·rw [if_pos c29] at H
            have c29b0 : (a0_3 == 4) = true := beq_iff_eq.mpr c29
            have c29b1 : (a0_3 != 4) = false := bne_eq_false_iff_eq.mpr c29
            clear c29
            have H' := Aside0.mk H
            clear H
            have hcz30 := blk_all7 BK305.out
            go_wp2
            go_meet
            case rel => exact ⟨_, (false), eq_now, H', ⟨by have := HJ4.out; have := HJ18.out; first | omega | exact Nat.le_refl _⟩, ⟨bk_now⟩, ⟨b_now⟩⟩
           ·rw [if_neg c29] at H
            have c29b0 : (a0_3 == 4) = false := beq_eq_false_iff_ne.mpr c29
            have c29b1 : (a0_3 != 4) = true := bne_iff_ne.mpr c29
            have H' := Aside0.mk H
            clear H
            have hcz31 := blk_all7 BK305.out
            go_wp2
            go_meet
            case rel => exact ⟨_, ((a0_3 != 8)), eq_now, H', ⟨by have := HJ4.out; have := HJ18.out; first | omega | exact Nat.le_refl _⟩, ⟨bk_now⟩, ⟨b_now⟩⟩
        case rest =>
         clear HC24
         obtain ⟨kq, x59_23, rfl, HA, HJ23, BK305, HB⟩ := hcut
         cases kq with
         | zero => exact absurd HA.out (by simp [stockaderef18_May.j2])
         | succ kj23 =>
          have H := HA.out
          clear HA
          simp only [stockaderef18_May.j2] at H
          by_cases c32 : x59_23 = true
          ·subst c32
           replace H := sh_t H
           obtain rfl := Option.some.inj H
           go_wp2
           go_ret
           exact ⟨ret_now, b_now⟩
          ·replace c32 := Bool.eq_false_iff.mpr c32
           subst c32
           replace H := sh_f H
           by_cases c33 : a0_2 ≥ 0
           ·rw [if_pos c33] at H
            have c33b0 : decide (0 ≤ a0_2) = true := decide_eq_true c33
            clear c33
            by_cases c34 : a0_2 ≤ 255
            ·rw [if_pos c34] at H
             have c34b0 : decide (a0_2 ≤ 255) = true := decide_eq_true c34
             clear c34
             by_cases c35 : a0_4 > 0
             ·rw [if_pos c35] at H
              have c35b0 : decide (0 < a0_4) = true := decide_eq_true c35
              clear c35
              replace H := Option.bind_eq_some_iff.mp H; obtain ⟨t306, A360, H⟩ := H; try dsimp only at H
              have A36 := Aside0.mk A360
              clear A360
              by_cases c37 : a0_4 ≤ t306
              ·rw [if_pos c37] at H
               have c37b0 : decide (a0_4 ≤ t306) = true := decide_eq_true c37
               clear c37
               replace H := Option.bind_eq_some_iff.mp H; obtain ⟨t307, A380, H⟩ := H; try dsimp only at H
               have A38 := Aside0.mk A380
               clear A380
               obtain rfl := Option.some.inj H
               try go_wp2
               have n0_ := Aside0.mk (blk_drew BK305.out)
               have n1_ := Aside0.mk (below_drew1 HB.out)
               clear BK305
               clear HB
               have BK305 := n0_
               have HB := n1_
               clear n0_ n1_
               refine start_ (n := 30) (S := fun w' => w'.cell? ⟨gb305, 0, none⟩ = some (.bool a0_0) ∧ w'.cell? ⟨gb305, 1, none⟩ = some (.int .i64 a0_1) ∧ w'.cell? ⟨gb305, 2, none⟩ = some (.int .i64 a0_2) ∧ w'.cell? ⟨gb305, 3, none⟩ = some (.int .i64 a0_3) ∧ w'.cell? ⟨gb305, 4, none⟩ = some (.int .u64 a0_4) ∧ w'.cell? ⟨gb305, 5, none⟩ = some (.int .u64 a0_5) ∧ w'.cell? ⟨gb305, 6, none⟩ = some (.int .u64 a0_6)) (ds := []) (fl 0 30) (by kernel_rfl) rfl rfl ⟨(blk_cell BK305.out 0).trans rfl, (blk_cell BK305.out 1).trans rfl, (blk_cell BK305.out 2).trans rfl, (blk_cell BK305.out 3).trans rfl, (blk_cell BK305.out 4).trans rfl, (blk_cell BK305.out 5).trans rfl, (blk_cell BK305.out 6).trans rfl⟩ (fun hHeld => ?_); refine with_tabW stockaderef18_May.tab9 stockaderef18_May.bits9 (fun HT_ HW_ => ?_)
               generalize wc.drew = w39 at BK305 HB hHeld ⊢
               refine pure_ (i := 0) (N := some 60) (v := ?_) (a' := ?_) (fl 1 29) rfl rfl (any_of HT_.out (by kernel_rfl)) (fun _ _ _ h => h) (Or.inl ⟨by rfl, ?_⟩) ?_ ?_
               rotate_left; exact ga_; rotate_left; exact gb_
               refine take_ (i := 1) (N := some 61) (v := ?_) (a' := ?_) (fl 2 28) rfl rfl (take_ofW HT_.out HW_.out (by kernel_rfl)) (fun _ _ _ h => h) (Or.inl ⟨by rfl, ?_⟩) hHeld ?_ ?_
               rotate_left; exact ga7_; rotate_left; exact gb_
               refine pure_ (i := 2) (N := some 62) (v := ?_) (a' := ?_) (fl 3 27) rfl rfl (any_of HT_.out (by kernel_rfl)) (fun _ _ _ h => h) (Or.inl ⟨by rfl, ?_⟩) ?_ ?_
               rotate_left; exact ga_; rotate_left; exact gb_
               refine pure_ (i := 3) (N := some 63) (v := ?_) (a' := ?_) (fl 4 26) rfl rfl (any_of HT_.out (by kernel_rfl)) (fun _ _ _ h => h) (Or.inl ⟨by rfl, ?_⟩) ?_ ?_
               rotate_left; exact ga_; rotate_left; exact gb_
               refine pure_ (i := 4) (N := some 64) (v := ?_) (a' := ?_) (fl 5 25) rfl rfl (any_of HT_.out (by kernel_rfl)) (fun _ _ _ h => h) (Or.inl ⟨by rfl, ?_⟩) ?_ ?_
               rotate_left; exact ga_; rotate_left; exact gb_
               refine take_ (i := 5) (N := some 65) (v := ?_) (a' := ?_) (fl 6 24) rfl rfl (take_ofW HT_.out HW_.out (by kernel_rfl)) (fun _ _ _ h => h) (Or.inl ⟨by rfl, ?_⟩) hHeld ?_ ?_
               rotate_left; exact ga7_; rotate_left; exact gb_
               refine pure_ (i := 6) (N := some 66) (v := ?_) (a' := ?_) (fl 7 23) rfl rfl (any_of HT_.out (by kernel_rfl)) (fun _ _ _ h => h) (Or.inl ⟨by rfl, ?_⟩) ?_ ?_
               rotate_left; exact ga_; rotate_left; exact gb_
               refine pure_ (i := 7) (N := some 67) (v := ?_) (a' := ?_) (fl 8 22) rfl rfl (any_of HT_.out (by kernel_rfl)) (fun _ _ _ h => h) (Or.inl ⟨by rfl, ?_⟩) ?_ ?_
               rotate_left; exact ga_; rotate_left; exact gb_
               refine pure_ (i := 8) (N := some 68) (v := ?_) (a' := ?_) (fl 9 21) rfl rfl (any_of HT_.out (by kernel_rfl)) (fun _ _ _ h => h) (Or.inl ⟨by rfl, ?_⟩) ?_ ?_
               rotate_left; exact ga_; rotate_left; exact gb_
               refine pure_ (i := 9) (N := some 69) (v := ?_) (a' := ?_) (fl 10 20) rfl rfl (any_of HT_.out (by kernel_rfl)) (fun _ _ _ h => h) (Or.inl ⟨by rfl, ?_⟩) ?_ ?_
               rotate_left; exact ga_; rotate_left; exact gb_
               refine take_ (i := 10) (N := some 70) (v := ?_) (a' := ?_) (fl 11 19) rfl rfl (take_ofW HT_.out HW_.out (by kernel_rfl)) (fun _ _ _ h => h) (Or.inl ⟨by rfl, ?_⟩) hHeld ?_ ?_
               rotate_left; exact ga7_; rotate_left; exact gb_
               refine pure_ (i := 11) (N := some 71) (v := ?_) (a' := ?_) (fl 12 18) rfl rfl (any_of HT_.out (by kernel_rfl)) (fun _ _ _ h => h) (Or.inl ⟨by rfl, ?_⟩) ?_ ?_
               rotate_left; exact ga_; rotate_left; exact gb_
               refine pure_ (i := 12) (N := some 72) (v := ?_) (a' := ?_) (fl 13 17) rfl rfl (any_of HT_.out (by kernel_rfl)) (fun _ _ _ h => h) (Or.inl ⟨by rfl, ?_⟩) ?_ ?_
               rotate_left; exact ga_; rotate_left; exact gb_
               refine pure_ (i := 13) (N := some 73) (v := ?_) (a' := ?_) (fl 14 16) rfl rfl (any_of HT_.out (by kernel_rfl)) (fun _ _ _ h => h) (Or.inl ⟨by rfl, ?_⟩) ?_ ?_
               rotate_left; exact ga_; rotate_left; exact gb_
               refine pure_ (i := 14) (N := some 74) (v := ?_) (a' := ?_) (fl 15 15) rfl rfl (any_of HT_.out (by kernel_rfl)) (fun _ _ _ h => h) (Or.inl ⟨by rfl, ?_⟩) ?_ ?_
               rotate_left; exact ga_; rotate_left; exact gb_
               refine pure_ (i := 16) (N := some 76) (v := ?_) (a' := ?_) (fm 30 98303) rfl rfl (any_of HT_.out (by kernel_rfl)) (fun _ _ _ h => h) (Or.inl ⟨by rfl, ?_⟩) ?_ ?_
               rotate_left; exact ga_; rotate_left; exact gb_
               refine take_ (i := 15) (N := some 75) (v := ?_) (a' := ?_) (fl 17 13) rfl rfl (take_ofW HT_.out HW_.out (by kernel_rfl)) (fun _ _ _ h => h) (Or.inl ⟨by rfl, ?_⟩) hHeld ?_ ?_
               rotate_left; exact ga7_; rotate_left; exact gb_
               refine take_ (i := 17) (N := some 77) (v := ?_) (a' := ?_) (fl 18 12) rfl rfl (take_ofW HT_.out HW_.out (by kernel_rfl)) (fun _ _ _ h => h) (Or.inl ⟨by rfl, ?_⟩) hHeld ?_ ?_
               rotate_left; exact ga7_; rotate_left; exact gb_
               refine one_ (i := 18) (N := some 78) (fl 19 11) rfl rfl (one_of HT_.out (by kernel_rfl)) (by decide) (fun K hK => ?_)
               refine goes_ Tryd.func43 (by kernel_rfl) rfl #[.int .i64 a0_3] (by rfl) rfl rfl (by (try simp only [List.map_toArray, List.map_cons, List.map_nil]); first | done | rfl | (simp only [List.length_drop, List.length_take]; rfl)) ?_
               with_reducible refine (stockaderef18_Full.calls kj23 a0_3 t306 _ A36.out).mono ?_
               rintro e w' ⟨rfl, ⟨nd, rfl⟩⟩
               refine ⟨_, rfl, ?_⟩
               refine hK.out _ _ ⟨(blk_cell BK305.out 0).trans rfl, (blk_cell BK305.out 1).trans rfl, (blk_cell BK305.out 2).trans rfl, (blk_cell BK305.out 3).trans rfl, (blk_cell BK305.out 4).trans rfl, (blk_cell BK305.out 5).trans rfl, (blk_cell BK305.out 6).trans rfl⟩ (fun hHeld => ?_)
               clear hK K
               refine norm_ (a' := ?_) ?_ ?_
               rotate_left
               ·show Act.put _ (some 78) _ = _
                simp only [Act.put, List.setIfInBounds_toArray, List.set_cons_zero, List.set_cons_succ, i64_w, i32_w]
                rfl
               refine pure_ (i := 19) (N := some 79) (v := ?_) (a' := ?_) (fl 20 10) rfl rfl (any_of HT_.out (by kernel_rfl)) (fun _ _ _ h => h) (Or.inl ⟨by rfl, ?_⟩) ?_ ?_
               rotate_left; exact ga_; rotate_left; exact gb_
               refine pure_ (i := 20) (N := some 80) (v := ?_) (a' := ?_) (fl 21 9) rfl rfl (any_of HT_.out (by kernel_rfl)) (fun _ _ _ h => h) (Or.inl ⟨by rfl, ?_⟩) ?_ ?_
               rotate_left; exact ga_; rotate_left; exact gb_
               refine pure_ (i := 21) (N := some 81) (v := ?_) (a' := ?_) (fl 22 8) rfl rfl (any_of HT_.out (by kernel_rfl)) (fun _ _ _ h => h) (Or.inl ⟨by rfl, ?_⟩) ?_ ?_
               rotate_left; exact ga_; rotate_left; exact gb_
               refine pure_ (i := 22) (N := some 82) (v := ?_) (a' := ?_) (fl 23 7) rfl rfl (any_of HT_.out (by kernel_rfl)) (fun _ _ _ h => h) (Or.inl ⟨by rfl, ?_⟩) ?_ ?_
               rotate_left; exact ga_; rotate_left; exact gb_
               refine pure_ (i := 24) (N := some 84) (v := ?_) (a' := ?_) (fm 30 25165823) rfl rfl (any_of HT_.out (by kernel_rfl)) (fun _ _ _ h => h) (Or.inl ⟨by rfl, ?_⟩) ?_ ?_
               rotate_left; exact ga_; rotate_left; exact gb_
               refine take_ (i := 23) (N := some 83) (v := ?_) (a' := ?_) (fl 25 5) rfl rfl (take_ofW HT_.out HW_.out (by kernel_rfl)) (fun _ _ _ h => h) (Or.inl ⟨by rfl, ?_⟩) hHeld ?_ ?_
               rotate_left; exact ga7_; rotate_left; exact gb_
               refine take_ (i := 25) (N := some 85) (v := ?_) (a' := ?_) (fl 26 4) rfl rfl (take_ofW HT_.out HW_.out (by kernel_rfl)) (fun _ _ _ h => h) (Or.inl ⟨by rfl, ?_⟩) hHeld ?_ ?_
               rotate_left; exact ga7_; rotate_left; exact gb_
               refine one_ (i := 26) (N := some 86) (fl 27 3) rfl rfl (one_of HT_.out (by kernel_rfl)) (by decide) (fun K hK => ?_)
               refine goes_ Tryd.func43 (by kernel_rfl) rfl #[.int .i64 a0_3] (by rfl) rfl rfl (by (try simp only [List.map_toArray, List.map_cons, List.map_nil]); first | done | rfl | (simp only [List.length_drop, List.length_take]; rfl)) ?_
               with_reducible refine (stockaderef18_Full.calls kj23 a0_3 t307 _ A38.out).mono ?_
               rintro e w' ⟨rfl, ⟨nd, rfl⟩⟩
               refine ⟨_, rfl, ?_⟩
               refine hK.out _ _ ⟨(blk_cell BK305.out 0).trans rfl, (blk_cell BK305.out 1).trans rfl, (blk_cell BK305.out 2).trans rfl, (blk_cell BK305.out 3).trans rfl, (blk_cell BK305.out 4).trans rfl, (blk_cell BK305.out 5).trans rfl, (blk_cell BK305.out 6).trans rfl⟩ (fun hHeld => ?_)
               clear hK K
               refine norm_ (a' := ?_) ?_ ?_
               rotate_left
               ·show Act.put _ (some 86) _ = _
                simp only [Act.put, List.setIfInBounds_toArray, List.set_cons_zero, List.set_cons_succ, i64_w, i32_w]
                rfl
               refine pure_ (i := 27) (N := some 87) (v := ?_) (a' := ?_) (fl 28 2) rfl rfl (any_of HT_.out (by kernel_rfl)) (fun _ _ _ h => h) (Or.inl ⟨by rfl, ?_⟩) ?_ ?_
               rotate_left; exact ga_; rotate_left; exact gb_
               refine pure_ (i := 28) (N := some 88) (v := ?_) (a' := ?_) (fl 29 1) rfl rfl (any_of HT_.out (by kernel_rfl)) (fun _ _ _ h => h) (Or.inl ⟨by rfl, ?_⟩) ?_ ?_
               rotate_left; exact ga_; rotate_left; exact gb_
               refine pure_ (i := 29) (N := some 2) (v := ?_) (a' := ?_) (fl 30 0) rfl rfl (any_of HT_.out (by kernel_rfl)) (fun _ _ _ h => h) (Or.inl ⟨by rfl, ?_⟩) ?_ ?_
               rotate_left; exact ga_; rotate_left; exact gb_
               refine done_ (done_of HT_.out (by kernel_rfl)) ?_
               try go_wp2
               go_ret
               exact ⟨ret_now, b_now⟩
              ·rw [if_neg c37] at H
               have c37b0 : decide (a0_4 ≤ t306) = false := decide_eq_false c37
               clear c37
               obtain rfl := Option.some.inj H
               try go_wp2
               have n0_ := Aside0.mk (blk_drew BK305.out)
               have n1_ := Aside0.mk (below_drew1 HB.out)
               clear BK305
               clear HB
               have BK305 := n0_
               have HB := n1_
               clear n0_ n1_
               refine start_ (n := 30) (S := fun w' => w'.cell? ⟨gb305, 0, none⟩ = some (.bool a0_0) ∧ w'.cell? ⟨gb305, 1, none⟩ = some (.int .i64 a0_1) ∧ w'.cell? ⟨gb305, 2, none⟩ = some (.int .i64 a0_2) ∧ w'.cell? ⟨gb305, 3, none⟩ = some (.int .i64 a0_3) ∧ w'.cell? ⟨gb305, 4, none⟩ = some (.int .u64 a0_4) ∧ w'.cell? ⟨gb305, 5, none⟩ = some (.int .u64 a0_5) ∧ w'.cell? ⟨gb305, 6, none⟩ = some (.int .u64 a0_6)) (ds := []) (fl 0 30) (by kernel_rfl) rfl rfl ⟨(blk_cell BK305.out 0).trans rfl, (blk_cell BK305.out 1).trans rfl, (blk_cell BK305.out 2).trans rfl, (blk_cell BK305.out 3).trans rfl, (blk_cell BK305.out 4).trans rfl, (blk_cell BK305.out 5).trans rfl, (blk_cell BK305.out 6).trans rfl⟩ (fun hHeld => ?_); refine with_tabW stockaderef18_May.tab9 stockaderef18_May.bits9 (fun HT_ HW_ => ?_)
               generalize wc.drew = w40 at BK305 HB hHeld ⊢
               refine pure_ (i := 0) (N := some 60) (v := ?_) (a' := ?_) (fl 1 29) rfl rfl (any_of HT_.out (by kernel_rfl)) (fun _ _ _ h => h) (Or.inl ⟨by rfl, ?_⟩) ?_ ?_
               rotate_left; exact ga_; rotate_left; exact gb_
               refine take_ (i := 1) (N := some 61) (v := ?_) (a' := ?_) (fl 2 28) rfl rfl (take_ofW HT_.out HW_.out (by kernel_rfl)) (fun _ _ _ h => h) (Or.inl ⟨by rfl, ?_⟩) hHeld ?_ ?_
               rotate_left; exact ga7_; rotate_left; exact gb_
               refine pure_ (i := 2) (N := some 62) (v := ?_) (a' := ?_) (fl 3 27) rfl rfl (any_of HT_.out (by kernel_rfl)) (fun _ _ _ h => h) (Or.inl ⟨by rfl, ?_⟩) ?_ ?_
               rotate_left; exact ga_; rotate_left; exact gb_
               refine pure_ (i := 3) (N := some 63) (v := ?_) (a' := ?_) (fl 4 26) rfl rfl (any_of HT_.out (by kernel_rfl)) (fun _ _ _ h => h) (Or.inl ⟨by rfl, ?_⟩) ?_ ?_
               rotate_left; exact ga_; rotate_left; exact gb_
               refine pure_ (i := 4) (N := some 64) (v := ?_) (a' := ?_) (fl 5 25) rfl rfl (any_of HT_.out (by kernel_rfl)) (fun _ _ _ h => h) (Or.inl ⟨by rfl, ?_⟩) ?_ ?_
               rotate_left; exact ga_; rotate_left; exact gb_
               refine take_ (i := 5) (N := some 65) (v := ?_) (a' := ?_) (fl 6 24) rfl rfl (take_ofW HT_.out HW_.out (by kernel_rfl)) (fun _ _ _ h => h) (Or.inl ⟨by rfl, ?_⟩) hHeld ?_ ?_
               rotate_left; exact ga7_; rotate_left; exact gb_
               refine pure_ (i := 6) (N := some 66) (v := ?_) (a' := ?_) (fl 7 23) rfl rfl (any_of HT_.out (by kernel_rfl)) (fun _ _ _ h => h) (Or.inl ⟨by rfl, ?_⟩) ?_ ?_
               rotate_left; exact ga_; rotate_left; exact gb_
               refine pure_ (i := 7) (N := some 67) (v := ?_) (a' := ?_) (fl 8 22) rfl rfl (any_of HT_.out (by kernel_rfl)) (fun _ _ _ h => h) (Or.inl ⟨by rfl, ?_⟩) ?_ ?_
               rotate_left; exact ga_; rotate_left; exact gb_
               refine pure_ (i := 8) (N := some 68) (v := ?_) (a' := ?_) (fl 9 21) rfl rfl (any_of HT_.out (by kernel_rfl)) (fun _ _ _ h => h) (Or.inl ⟨by rfl, ?_⟩) ?_ ?_
               rotate_left; exact ga_; rotate_left; exact gb_
               refine pure_ (i := 9) (N := some 69) (v := ?_) (a' := ?_) (fl 10 20) rfl rfl (any_of HT_.out (by kernel_rfl)) (fun _ _ _ h => h) (Or.inl ⟨by rfl, ?_⟩) ?_ ?_
               rotate_left; exact ga_; rotate_left; exact gb_
               refine take_ (i := 10) (N := some 70) (v := ?_) (a' := ?_) (fl 11 19) rfl rfl (take_ofW HT_.out HW_.out (by kernel_rfl)) (fun _ _ _ h => h) (Or.inl ⟨by rfl, ?_⟩) hHeld ?_ ?_
               rotate_left; exact ga7_; rotate_left; exact gb_
               refine pure_ (i := 11) (N := some 71) (v := ?_) (a' := ?_) (fl 12 18) rfl rfl (any_of HT_.out (by kernel_rfl)) (fun _ _ _ h => h) (Or.inl ⟨by rfl, ?_⟩) ?_ ?_
               rotate_left; exact ga_; rotate_left; exact gb_
               refine pure_ (i := 12) (N := some 72) (v := ?_) (a' := ?_) (fl 13 17) rfl rfl (any_of HT_.out (by kernel_rfl)) (fun _ _ _ h => h) (Or.inl ⟨by rfl, ?_⟩) ?_ ?_
               rotate_left; exact ga_; rotate_left; exact gb_
               refine pure_ (i := 13) (N := some 73) (v := ?_) (a' := ?_) (fl 14 16) rfl rfl (any_of HT_.out (by kernel_rfl)) (fun _ _ _ h => h) (Or.inl ⟨by rfl, ?_⟩) ?_ ?_
               rotate_left; exact ga_; rotate_left; exact gb_
               refine pure_ (i := 14) (N := some 74) (v := ?_) (a' := ?_) (fl 15 15) rfl rfl (any_of HT_.out (by kernel_rfl)) (fun _ _ _ h => h) (Or.inl ⟨by rfl, ?_⟩) ?_ ?_
               rotate_left; exact ga_; rotate_left; exact gb_
               refine pure_ (i := 16) (N := some 76) (v := ?_) (a' := ?_) (fm 30 98303) rfl rfl (any_of HT_.out (by kernel_rfl)) (fun _ _ _ h => h) (Or.inl ⟨by rfl, ?_⟩) ?_ ?_
               rotate_left; exact ga_; rotate_left; exact gb_
               refine take_ (i := 15) (N := some 75) (v := ?_) (a' := ?_) (fl 17 13) rfl rfl (take_ofW HT_.out HW_.out (by kernel_rfl)) (fun _ _ _ h => h) (Or.inl ⟨by rfl, ?_⟩) hHeld ?_ ?_
               rotate_left; exact ga7_; rotate_left; exact gb_
               refine take_ (i := 17) (N := some 77) (v := ?_) (a' := ?_) (fl 18 12) rfl rfl (take_ofW HT_.out HW_.out (by kernel_rfl)) (fun _ _ _ h => h) (Or.inl ⟨by rfl, ?_⟩) hHeld ?_ ?_
               rotate_left; exact ga7_; rotate_left; exact gb_
               refine one_ (i := 18) (N := some 78) (fl 19 11) rfl rfl (one_of HT_.out (by kernel_rfl)) (by decide) (fun K hK => ?_)
               refine goes_ Tryd.func43 (by kernel_rfl) rfl #[.int .i64 a0_3] (by rfl) rfl rfl (by (try simp only [List.map_toArray, List.map_cons, List.map_nil]); first | done | rfl | (simp only [List.length_drop, List.length_take]; rfl)) ?_
               with_reducible refine (stockaderef18_Full.calls kj23 a0_3 t306 _ A36.out).mono ?_
               rintro e w' ⟨rfl, ⟨nd, rfl⟩⟩
               refine ⟨_, rfl, ?_⟩
               refine hK.out _ _ ⟨(blk_cell BK305.out 0).trans rfl, (blk_cell BK305.out 1).trans rfl, (blk_cell BK305.out 2).trans rfl, (blk_cell BK305.out 3).trans rfl, (blk_cell BK305.out 4).trans rfl, (blk_cell BK305.out 5).trans rfl, (blk_cell BK305.out 6).trans rfl⟩ (fun hHeld => ?_)
               clear hK K
               refine norm_ (a' := ?_) ?_ ?_
               rotate_left
               ·show Act.put _ (some 78) _ = _
                simp only [Act.put, List.setIfInBounds_toArray, List.set_cons_zero, List.set_cons_succ, i64_w, i32_w]
                rfl
               refine pure_ (i := 19) (N := some 79) (v := ?_) (a' := ?_) (fl 20 10) rfl rfl (any_of HT_.out (by kernel_rfl)) (fun _ _ _ h => h) (Or.inl ⟨by rfl, ?_⟩) ?_ ?_
               rotate_left; exact ga_; rotate_left; exact gb_
               refine pure_ (i := 20) (N := some 80) (v := ?_) (a' := ?_) (fl 21 9) rfl rfl (any_of HT_.out (by kernel_rfl)) (fun _ _ _ h => h) (Or.inl ⟨by rfl, ?_⟩) ?_ ?_
               rotate_left; exact ga_; rotate_left; exact gb_
               refine pure_ (i := 21) (N := some 81) (v := ?_) (a' := ?_) (fl 22 8) rfl rfl (any_of HT_.out (by kernel_rfl)) (fun _ _ _ h => h) (Or.inl ⟨by rfl, ?_⟩) ?_ ?_
               rotate_left; exact ga_; rotate_left; exact gb_
               refine pure_ (i := 22) (N := some 82) (v := undef) (a' := ?_) (fl 23 7) rfl rfl (any_of HT_.out (by kernel_rfl)) (fun _ _ _ h => h) (Or.inr ⟨by rfl, rfl⟩) ?_ ?_
               rotate_left
               ·simp only [Act.put, List.setIfInBounds_toArray, List.set_cons_zero, List.set_cons_succ, i64_w, i32_w]
                rfl
               refine pure_ (i := 23) (N := some 83) (v := undef) (a' := ?_) (fl 24 6) rfl rfl (any_of HT_.out (by kernel_rfl)) (fun _ _ _ h => h) (Or.inr ⟨by rfl, rfl⟩) ?_ ?_
               rotate_left
               ·simp only [Act.put, List.setIfInBounds_toArray, List.set_cons_zero, List.set_cons_succ, i64_w, i32_w]
                rfl
               refine pure_ (i := 24) (N := some 84) (v := undef) (a' := ?_) (fl 25 5) rfl rfl (any_of HT_.out (by kernel_rfl)) (fun _ _ _ h => h) (Or.inr ⟨by rfl, rfl⟩) ?_ ?_
               rotate_left
               ·simp only [Act.put, List.setIfInBounds_toArray, List.set_cons_zero, List.set_cons_succ, i64_w, i32_w]
                rfl
               refine pure_ (i := 25) (N := some 85) (v := undef) (a' := ?_) (fl 26 4) rfl rfl (any_of HT_.out (by kernel_rfl)) (fun _ _ _ h => h) (Or.inr ⟨by rfl, rfl⟩) ?_ ?_
               rotate_left
               ·simp only [Act.put, List.setIfInBounds_toArray, List.set_cons_zero, List.set_cons_succ, i64_w, i32_w]
                rfl
               refine pure_ (i := 26) (N := some 86) (v := undef) (a' := ?_) (fl 27 3) rfl rfl (any_of HT_.out (by kernel_rfl)) (fun _ _ _ h => h) (Or.inr ⟨by rfl, rfl⟩) ?_ ?_
               rotate_left
               ·simp only [Act.put, List.setIfInBounds_toArray, List.set_cons_zero, List.set_cons_succ, i64_w, i32_w]
                rfl
               refine pure_ (i := 27) (N := some 87) (v := undef) (a' := ?_) (fl 28 2) rfl rfl (any_of HT_.out (by kernel_rfl)) (fun _ _ _ h => h) (Or.inr ⟨by rfl, rfl⟩) ?_ ?_
               rotate_left
               ·simp only [Act.put, List.setIfInBounds_toArray, List.set_cons_zero, List.set_cons_succ, i64_w, i32_w]
                rfl
               refine pure_ (i := 28) (N := some 88) (v := ?_) (a' := ?_) (fl 29 1) rfl rfl (any_of HT_.out (by kernel_rfl)) (fun _ _ _ h => h) (Or.inl ⟨by rfl, ?_⟩) ?_ ?_
               rotate_left; exact ga_; rotate_left; exact gb_
               refine pure_ (i := 29) (N := some 2) (v := ?_) (a' := ?_) (fl 30 0) rfl rfl (any_of HT_.out (by kernel_rfl)) (fun _ _ _ h => h) (Or.inl ⟨by rfl, ?_⟩) ?_ ?_
               rotate_left; exact ga_; rotate_left; exact gb_
               refine done_ (done_of HT_.out (by kernel_rfl)) ?_
               try go_wp2
               go_ret
               exact ⟨ret_now, b_now⟩
             ·rw [if_neg c35] at H
              have c35b0 : decide (0 < a0_4) = false := decide_eq_false c35
              clear c35
              obtain rfl := Option.some.inj H
              try go_wp2
              have n0_ := Aside0.mk (blk_drew BK305.out)
              have n1_ := Aside0.mk (below_drew1 HB.out)
              clear BK305
              clear HB
              have BK305 := n0_
              have HB := n1_
              clear n0_ n1_
              refine start_ (n := 30) (S := fun w' => w'.cell? ⟨gb305, 0, none⟩ = some (.bool a0_0) ∧ w'.cell? ⟨gb305, 1, none⟩ = some (.int .i64 a0_1) ∧ w'.cell? ⟨gb305, 2, none⟩ = some (.int .i64 a0_2) ∧ w'.cell? ⟨gb305, 3, none⟩ = some (.int .i64 a0_3) ∧ w'.cell? ⟨gb305, 4, none⟩ = some (.int .u64 a0_4) ∧ w'.cell? ⟨gb305, 5, none⟩ = some (.int .u64 a0_5) ∧ w'.cell? ⟨gb305, 6, none⟩ = some (.int .u64 a0_6)) (ds := []) (fl 0 30) (by kernel_rfl) rfl rfl ⟨(blk_cell BK305.out 0).trans rfl, (blk_cell BK305.out 1).trans rfl, (blk_cell BK305.out 2).trans rfl, (blk_cell BK305.out 3).trans rfl, (blk_cell BK305.out 4).trans rfl, (blk_cell BK305.out 5).trans rfl, (blk_cell BK305.out 6).trans rfl⟩ (fun hHeld => ?_); refine with_tabW stockaderef18_May.tab9 stockaderef18_May.bits9 (fun HT_ HW_ => ?_)
              generalize wc.drew = w41 at BK305 HB hHeld ⊢
              refine pure_ (i := 0) (N := some 60) (v := ?_) (a' := ?_) (fl 1 29) rfl rfl (any_of HT_.out (by kernel_rfl)) (fun _ _ _ h => h) (Or.inl ⟨by rfl, ?_⟩) ?_ ?_
              rotate_left; exact ga_; rotate_left; exact gb_
              refine take_ (i := 1) (N := some 61) (v := ?_) (a' := ?_) (fl 2 28) rfl rfl (take_ofW HT_.out HW_.out (by kernel_rfl)) (fun _ _ _ h => h) (Or.inl ⟨by rfl, ?_⟩) hHeld ?_ ?_
              rotate_left; exact ga7_; rotate_left; exact gb_
              refine pure_ (i := 2) (N := some 62) (v := ?_) (a' := ?_) (fl 3 27) rfl rfl (any_of HT_.out (by kernel_rfl)) (fun _ _ _ h => h) (Or.inl ⟨by rfl, ?_⟩) ?_ ?_
              rotate_left; exact ga_; rotate_left; exact gb_
              refine pure_ (i := 3) (N := some 63) (v := ?_) (a' := ?_) (fl 4 26) rfl rfl (any_of HT_.out (by kernel_rfl)) (fun _ _ _ h => h) (Or.inl ⟨by rfl, ?_⟩) ?_ ?_
              rotate_left; exact ga_; rotate_left; exact gb_
              refine pure_ (i := 4) (N := some 64) (v := ?_) (a' := ?_) (fl 5 25) rfl rfl (any_of HT_.out (by kernel_rfl)) (fun _ _ _ h => h) (Or.inl ⟨by rfl, ?_⟩) ?_ ?_
              rotate_left; exact ga_; rotate_left; exact gb_
              refine take_ (i := 5) (N := some 65) (v := ?_) (a' := ?_) (fl 6 24) rfl rfl (take_ofW HT_.out HW_.out (by kernel_rfl)) (fun _ _ _ h => h) (Or.inl ⟨by rfl, ?_⟩) hHeld ?_ ?_
              rotate_left; exact ga7_; rotate_left; exact gb_
              refine pure_ (i := 6) (N := some 66) (v := ?_) (a' := ?_) (fl 7 23) rfl rfl (any_of HT_.out (by kernel_rfl)) (fun _ _ _ h => h) (Or.inl ⟨by rfl, ?_⟩) ?_ ?_
              rotate_left; exact ga_; rotate_left; exact gb_
              refine pure_ (i := 7) (N := some 67) (v := ?_) (a' := ?_) (fl 8 22) rfl rfl (any_of HT_.out (by kernel_rfl)) (fun _ _ _ h => h) (Or.inl ⟨by rfl, ?_⟩) ?_ ?_
              rotate_left; exact ga_; rotate_left; exact gb_
              refine pure_ (i := 8) (N := some 68) (v := ?_) (a' := ?_) (fl 9 21) rfl rfl (any_of HT_.out (by kernel_rfl)) (fun _ _ _ h => h) (Or.inl ⟨by rfl, ?_⟩) ?_ ?_
              rotate_left; exact ga_; rotate_left; exact gb_
              refine pure_ (i := 9) (N := some 69) (v := ?_) (a' := ?_) (fl 10 20) rfl rfl (any_of HT_.out (by kernel_rfl)) (fun _ _ _ h => h) (Or.inl ⟨by rfl, ?_⟩) ?_ ?_
              rotate_left; exact ga_; rotate_left; exact gb_
              refine take_ (i := 10) (N := some 70) (v := ?_) (a' := ?_) (fl 11 19) rfl rfl (take_ofW HT_.out HW_.out (by kernel_rfl)) (fun _ _ _ h => h) (Or.inl ⟨by rfl, ?_⟩) hHeld ?_ ?_
              rotate_left; exact ga7_; rotate_left; exact gb_
              refine pure_ (i := 11) (N := some 71) (v := ?_) (a' := ?_) (fl 12 18) rfl rfl (any_of HT_.out (by kernel_rfl)) (fun _ _ _ h => h) (Or.inl ⟨by rfl, ?_⟩) ?_ ?_
              rotate_left; exact ga_; rotate_left; exact gb_
              refine pure_ (i := 12) (N := some 72) (v := ?_) (a' := ?_) (fl 13 17) rfl rfl (any_of HT_.out (by kernel_rfl)) (fun _ _ _ h => h) (Or.inl ⟨by rfl, ?_⟩) ?_ ?_
              rotate_left; exact ga_; rotate_left; exact gb_
              refine pure_ (i := 13) (N := some 73) (v := ?_) (a' := ?_) (fl 14 16) rfl rfl (any_of HT_.out (by kernel_rfl)) (fun _ _ _ h => h) (Or.inl ⟨by rfl, ?_⟩) ?_ ?_
              rotate_left; exact ga_; rotate_left; exact gb_
              refine pure_ (i := 14) (N := some 74) (v := undef) (a' := ?_) (fl 15 15) rfl rfl (any_of HT_.out (by kernel_rfl)) (fun _ _ _ h => h) (Or.inr ⟨by rfl, rfl⟩) ?_ ?_
              rotate_left
              ·simp only [Act.put, List.setIfInBounds_toArray, List.set_cons_zero, List.set_cons_succ, i64_w, i32_w]
               rfl
              refine pure_ (i := 15) (N := some 75) (v := undef) (a' := ?_) (fl 16 14) rfl rfl (any_of HT_.out (by kernel_rfl)) (fun _ _ _ h => h) (Or.inr ⟨by rfl, rfl⟩) ?_ ?_
              rotate_left
              ·simp only [Act.put, List.setIfInBounds_toArray, List.set_cons_zero, List.set_cons_succ, i64_w, i32_w]
               rfl
              refine pure_ (i := 16) (N := some 76) (v := undef) (a' := ?_) (fl 17 13) rfl rfl (any_of HT_.out (by kernel_rfl)) (fun _ _ _ h => h) (Or.inr ⟨by rfl, rfl⟩) ?_ ?_
              rotate_left
              ·simp only [Act.put, List.setIfInBounds_toArray, List.set_cons_zero, List.set_cons_succ, i64_w, i32_w]
               rfl
              refine pure_ (i := 17) (N := some 77) (v := undef) (a' := ?_) (fl 18 12) rfl rfl (any_of HT_.out (by kernel_rfl)) (fun _ _ _ h => h) (Or.inr ⟨by rfl, rfl⟩) ?_ ?_
              rotate_left
              ·simp only [Act.put, List.setIfInBounds_toArray, List.set_cons_zero, List.set_cons_succ, i64_w, i32_w]
               rfl
              refine pure_ (i := 18) (N := some 78) (v := undef) (a' := ?_) (fl 19 11) rfl rfl (any_of HT_.out (by kernel_rfl)) (fun _ _ _ h => h) (Or.inr ⟨by rfl, rfl⟩) ?_ ?_
              rotate_left
              ·simp only [Act.put, List.setIfInBounds_toArray, List.set_cons_zero, List.set_cons_succ, i64_w, i32_w]
               rfl
              refine pure_ (i := 19) (N := some 79) (v := undef) (a' := ?_) (fl 20 10) rfl rfl (any_of HT_.out (by kernel_rfl)) (fun _ _ _ h => h) (Or.inr ⟨by rfl, rfl⟩) ?_ ?_
              rotate_left
              ·simp only [Act.put, List.setIfInBounds_toArray, List.set_cons_zero, List.set_cons_succ, i64_w, i32_w]
               rfl
              refine pure_ (i := 20) (N := some 80) (v := ?_) (a' := ?_) (fl 21 9) rfl rfl (any_of HT_.out (by kernel_rfl)) (fun _ _ _ h => h) (Or.inl ⟨by rfl, ?_⟩) ?_ ?_
              rotate_left; exact ga_; rotate_left; exact gb_
              refine pure_ (i := 21) (N := some 81) (v := ?_) (a' := ?_) (fl 22 8) rfl rfl (any_of HT_.out (by kernel_rfl)) (fun _ _ _ h => h) (Or.inl ⟨by rfl, ?_⟩) ?_ ?_
              rotate_left; exact ga_; rotate_left; exact gb_
              refine pure_ (i := 22) (N := some 82) (v := undef) (a' := ?_) (fl 23 7) rfl rfl (any_of HT_.out (by kernel_rfl)) (fun _ _ _ h => h) (Or.inr ⟨by rfl, rfl⟩) ?_ ?_
              rotate_left
              ·simp only [Act.put, List.setIfInBounds_toArray, List.set_cons_zero, List.set_cons_succ, i64_w, i32_w]
               rfl
              refine pure_ (i := 23) (N := some 83) (v := undef) (a' := ?_) (fl 24 6) rfl rfl (any_of HT_.out (by kernel_rfl)) (fun _ _ _ h => h) (Or.inr ⟨by rfl, rfl⟩) ?_ ?_
              rotate_left
              ·simp only [Act.put, List.setIfInBounds_toArray, List.set_cons_zero, List.set_cons_succ, i64_w, i32_w]
               rfl
              refine pure_ (i := 24) (N := some 84) (v := undef) (a' := ?_) (fl 25 5) rfl rfl (any_of HT_.out (by kernel_rfl)) (fun _ _ _ h => h) (Or.inr ⟨by rfl, rfl⟩) ?_ ?_
              rotate_left
              ·simp only [Act.put, List.setIfInBounds_toArray, List.set_cons_zero, List.set_cons_succ, i64_w, i32_w]
               rfl
              refine pure_ (i := 25) (N := some 85) (v := undef) (a' := ?_) (fl 26 4) rfl rfl (any_of HT_.out (by kernel_rfl)) (fun _ _ _ h => h) (Or.inr ⟨by rfl, rfl⟩) ?_ ?_
              rotate_left
              ·simp only [Act.put, List.setIfInBounds_toArray, List.set_cons_zero, List.set_cons_succ, i64_w, i32_w]
               rfl
              refine pure_ (i := 26) (N := some 86) (v := undef) (a' := ?_) (fl 27 3) rfl rfl (any_of HT_.out (by kernel_rfl)) (fun _ _ _ h => h) (Or.inr ⟨by rfl, rfl⟩) ?_ ?_
              rotate_left
              ·simp only [Act.put, List.setIfInBounds_toArray, List.set_cons_zero, List.set_cons_succ, i64_w, i32_w]
               rfl
              refine pure_ (i := 27) (N := some 87) (v := undef) (a' := ?_) (fl 28 2) rfl rfl (any_of HT_.out (by kernel_rfl)) (fun _ _ _ h => h) (Or.inr ⟨by rfl, rfl⟩) ?_ ?_
              rotate_left
              ·simp only [Act.put, List.setIfInBounds_toArray, List.set_cons_zero, List.set_cons_succ, i64_w, i32_w]
               rfl
              refine pure_ (i := 28) (N := some 88) (v := ?_) (a' := ?_) (fl 29 1) rfl rfl (any_of HT_.out (by kernel_rfl)) (fun _ _ _ h => h) (Or.inl ⟨by rfl, ?_⟩) ?_ ?_
              rotate_left; exact ga_; rotate_left; exact gb_
              refine pure_ (i := 29) (N := some 2) (v := ?_) (a' := ?_) (fl 30 0) rfl rfl (any_of HT_.out (by kernel_rfl)) (fun _ _ _ h => h) (Or.inl ⟨by rfl, ?_⟩) ?_ ?_
              rotate_left; exact ga_; rotate_left; exact gb_
              refine done_ (done_of HT_.out (by kernel_rfl)) ?_
              try go_wp2
              go_ret
              exact ⟨ret_now, b_now⟩
            ·rw [if_neg c34] at H
             have c34b0 : decide (a0_2 ≤ 255) = false := decide_eq_false c34
             clear c34
             obtain rfl := Option.some.inj H
             try go_wp2
             have n0_ := Aside0.mk (blk_drew BK305.out)
             have n1_ := Aside0.mk (below_drew1 HB.out)
             clear BK305
             clear HB
             have BK305 := n0_
             have HB := n1_
             clear n0_ n1_
             refine start_ (n := 30) (S := fun w' => w'.cell? ⟨gb305, 0, none⟩ = some (.bool a0_0) ∧ w'.cell? ⟨gb305, 1, none⟩ = some (.int .i64 a0_1) ∧ w'.cell? ⟨gb305, 2, none⟩ = some (.int .i64 a0_2) ∧ w'.cell? ⟨gb305, 3, none⟩ = some (.int .i64 a0_3) ∧ w'.cell? ⟨gb305, 4, none⟩ = some (.int .u64 a0_4) ∧ w'.cell? ⟨gb305, 5, none⟩ = some (.int .u64 a0_5) ∧ w'.cell? ⟨gb305, 6, none⟩ = some (.int .u64 a0_6)) (ds := []) (fl 0 30) (by kernel_rfl) rfl rfl ⟨(blk_cell BK305.out 0).trans rfl, (blk_cell BK305.out 1).trans rfl, (blk_cell BK305.out 2).trans rfl, (blk_cell BK305.out 3).trans rfl, (blk_cell BK305.out 4).trans rfl, (blk_cell BK305.out 5).trans rfl, (blk_cell BK305.out 6).trans rfl⟩ (fun hHeld => ?_); refine with_tabW stockaderef18_May.tab9 stockaderef18_May.bits9 (fun HT_ HW_ => ?_)
             generalize wc.drew = w42 at BK305 HB hHeld ⊢
             refine pure_ (i := 0) (N := some 60) (v := ?_) (a' := ?_) (fl 1 29) rfl rfl (any_of HT_.out (by kernel_rfl)) (fun _ _ _ h => h) (Or.inl ⟨by rfl, ?_⟩) ?_ ?_
             rotate_left; exact ga_; rotate_left; exact gb_
             refine take_ (i := 1) (N := some 61) (v := ?_) (a' := ?_) (fl 2 28) rfl rfl (take_ofW HT_.out HW_.out (by kernel_rfl)) (fun _ _ _ h => h) (Or.inl ⟨by rfl, ?_⟩) hHeld ?_ ?_
             rotate_left; exact ga7_; rotate_left; exact gb_
             refine pure_ (i := 2) (N := some 62) (v := ?_) (a' := ?_) (fl 3 27) rfl rfl (any_of HT_.out (by kernel_rfl)) (fun _ _ _ h => h) (Or.inl ⟨by rfl, ?_⟩) ?_ ?_
             rotate_left; exact ga_; rotate_left; exact gb_
             refine pure_ (i := 3) (N := some 63) (v := ?_) (a' := ?_) (fl 4 26) rfl rfl (any_of HT_.out (by kernel_rfl)) (fun _ _ _ h => h) (Or.inl ⟨by rfl, ?_⟩) ?_ ?_
             rotate_left; exact ga_; rotate_left; exact gb_
             refine pure_ (i := 4) (N := some 64) (v := ?_) (a' := ?_) (fl 5 25) rfl rfl (any_of HT_.out (by kernel_rfl)) (fun _ _ _ h => h) (Or.inl ⟨by rfl, ?_⟩) ?_ ?_
             rotate_left; exact ga_; rotate_left; exact gb_
             refine take_ (i := 5) (N := some 65) (v := ?_) (a' := ?_) (fl 6 24) rfl rfl (take_ofW HT_.out HW_.out (by kernel_rfl)) (fun _ _ _ h => h) (Or.inl ⟨by rfl, ?_⟩) hHeld ?_ ?_
             rotate_left; exact ga7_; rotate_left; exact gb_
             refine pure_ (i := 6) (N := some 66) (v := ?_) (a' := ?_) (fl 7 23) rfl rfl (any_of HT_.out (by kernel_rfl)) (fun _ _ _ h => h) (Or.inl ⟨by rfl, ?_⟩) ?_ ?_
             rotate_left; exact ga_; rotate_left; exact gb_
             refine pure_ (i := 7) (N := some 67) (v := ?_) (a' := ?_) (fl 8 22) rfl rfl (any_of HT_.out (by kernel_rfl)) (fun _ _ _ h => h) (Or.inl ⟨by rfl, ?_⟩) ?_ ?_
             rotate_left; exact ga_; rotate_left; exact gb_
             refine pure_ (i := 8) (N := some 68) (v := ?_) (a' := ?_) (fl 9 21) rfl rfl (any_of HT_.out (by kernel_rfl)) (fun _ _ _ h => h) (Or.inl ⟨by rfl, ?_⟩) ?_ ?_
             rotate_left; exact ga_; rotate_left; exact gb_
             refine pure_ (i := 9) (N := some 69) (v := undef) (a' := ?_) (fl 10 20) rfl rfl (any_of HT_.out (by kernel_rfl)) (fun _ _ _ h => h) (Or.inr ⟨by rfl, rfl⟩) ?_ ?_
             rotate_left
             ·simp only [Act.put, List.setIfInBounds_toArray, List.set_cons_zero, List.set_cons_succ, i64_w, i32_w]
              rfl
             refine pure_ (i := 10) (N := some 70) (v := undef) (a' := ?_) (fl 11 19) rfl rfl (any_of HT_.out (by kernel_rfl)) (fun _ _ _ h => h) (Or.inr ⟨by rfl, rfl⟩) ?_ ?_
             rotate_left
             ·simp only [Act.put, List.setIfInBounds_toArray, List.set_cons_zero, List.set_cons_succ, i64_w, i32_w]
              rfl
             refine pure_ (i := 11) (N := some 71) (v := undef) (a' := ?_) (fl 12 18) rfl rfl (any_of HT_.out (by kernel_rfl)) (fun _ _ _ h => h) (Or.inr ⟨by rfl, rfl⟩) ?_ ?_
             rotate_left
             ·simp only [Act.put, List.setIfInBounds_toArray, List.set_cons_zero, List.set_cons_succ, i64_w, i32_w]
              rfl
             refine pure_ (i := 12) (N := some 72) (v := ?_) (a' := ?_) (fl 13 17) rfl rfl (any_of HT_.out (by kernel_rfl)) (fun _ _ _ h => h) (Or.inl ⟨by rfl, ?_⟩) ?_ ?_
             rotate_left; exact ga_; rotate_left; exact gb_
             refine pure_ (i := 13) (N := some 73) (v := ?_) (a' := ?_) (fl 14 16) rfl rfl (any_of HT_.out (by kernel_rfl)) (fun _ _ _ h => h) (Or.inl ⟨by rfl, ?_⟩) ?_ ?_
             rotate_left; exact ga_; rotate_left; exact gb_
             refine pure_ (i := 14) (N := some 74) (v := undef) (a' := ?_) (fl 15 15) rfl rfl (any_of HT_.out (by kernel_rfl)) (fun _ _ _ h => h) (Or.inr ⟨by rfl, rfl⟩) ?_ ?_
             rotate_left
             ·simp only [Act.put, List.setIfInBounds_toArray, List.set_cons_zero, List.set_cons_succ, i64_w, i32_w]
              rfl
             refine pure_ (i := 15) (N := some 75) (v := undef) (a' := ?_) (fl 16 14) rfl rfl (any_of HT_.out (by kernel_rfl)) (fun _ _ _ h => h) (Or.inr ⟨by rfl, rfl⟩) ?_ ?_
             rotate_left
             ·simp only [Act.put, List.setIfInBounds_toArray, List.set_cons_zero, List.set_cons_succ, i64_w, i32_w]
              rfl
             refine pure_ (i := 16) (N := some 76) (v := undef) (a' := ?_) (fl 17 13) rfl rfl (any_of HT_.out (by kernel_rfl)) (fun _ _ _ h => h) (Or.inr ⟨by rfl, rfl⟩) ?_ ?_
             rotate_left
             ·simp only [Act.put, List.setIfInBounds_toArray, List.set_cons_zero, List.set_cons_succ, i64_w, i32_w]
              rfl
             refine pure_ (i := 17) (N := some 77) (v := undef) (a' := ?_) (fl 18 12) rfl rfl (any_of HT_.out (by kernel_rfl)) (fun _ _ _ h => h) (Or.inr ⟨by rfl, rfl⟩) ?_ ?_
             rotate_left
             ·simp only [Act.put, List.setIfInBounds_toArray, List.set_cons_zero, List.set_cons_succ, i64_w, i32_w]
              rfl
             refine pure_ (i := 18) (N := some 78) (v := undef) (a' := ?_) (fl 19 11) rfl rfl (any_of HT_.out (by kernel_rfl)) (fun _ _ _ h => h) (Or.inr ⟨by rfl, rfl⟩) ?_ ?_
             rotate_left
             ·simp only [Act.put, List.setIfInBounds_toArray, List.set_cons_zero, List.set_cons_succ, i64_w, i32_w]
              rfl
             refine pure_ (i := 19) (N := some 79) (v := undef) (a' := ?_) (fl 20 10) rfl rfl (any_of HT_.out (by kernel_rfl)) (fun _ _ _ h => h) (Or.inr ⟨by rfl, rfl⟩) ?_ ?_
             rotate_left
             ·simp only [Act.put, List.setIfInBounds_toArray, List.set_cons_zero, List.set_cons_succ, i64_w, i32_w]
              rfl
             refine pure_ (i := 20) (N := some 80) (v := ?_) (a' := ?_) (fl 21 9) rfl rfl (any_of HT_.out (by kernel_rfl)) (fun _ _ _ h => h) (Or.inl ⟨by rfl, ?_⟩) ?_ ?_
             rotate_left; exact ga_; rotate_left; exact gb_
             refine pure_ (i := 21) (N := some 81) (v := ?_) (a' := ?_) (fl 22 8) rfl rfl (any_of HT_.out (by kernel_rfl)) (fun _ _ _ h => h) (Or.inl ⟨by rfl, ?_⟩) ?_ ?_
             rotate_left; exact ga_; rotate_left; exact gb_
             refine pure_ (i := 22) (N := some 82) (v := undef) (a' := ?_) (fl 23 7) rfl rfl (any_of HT_.out (by kernel_rfl)) (fun _ _ _ h => h) (Or.inr ⟨by rfl, rfl⟩) ?_ ?_
             rotate_left
             ·simp only [Act.put, List.setIfInBounds_toArray, List.set_cons_zero, List.set_cons_succ, i64_w, i32_w]
              rfl
             refine pure_ (i := 23) (N := some 83) (v := undef) (a' := ?_) (fl 24 6) rfl rfl (any_of HT_.out (by kernel_rfl)) (fun _ _ _ h => h) (Or.inr ⟨by rfl, rfl⟩) ?_ ?_
             rotate_left
             ·simp only [Act.put, List.setIfInBounds_toArray, List.set_cons_zero, List.set_cons_succ, i64_w, i32_w]
              rfl
             refine pure_ (i := 24) (N := some 84) (v := undef) (a' := ?_) (fl 25 5) rfl rfl (any_of HT_.out (by kernel_rfl)) (fun _ _ _ h => h) (Or.inr ⟨by rfl, rfl⟩) ?_ ?_
             rotate_left
             ·simp only [Act.put, List.setIfInBounds_toArray, List.set_cons_zero, List.set_cons_succ, i64_w, i32_w]
              rfl
             refine pure_ (i := 25) (N := some 85) (v := undef) (a' := ?_) (fl 26 4) rfl rfl (any_of HT_.out (by kernel_rfl)) (fun _ _ _ h => h) (Or.inr ⟨by rfl, rfl⟩) ?_ ?_
             rotate_left
             ·simp only [Act.put, List.setIfInBounds_toArray, List.set_cons_zero, List.set_cons_succ, i64_w, i32_w]
              rfl
             refine pure_ (i := 26) (N := some 86) (v := undef) (a' := ?_) (fl 27 3) rfl rfl (any_of HT_.out (by kernel_rfl)) (fun _ _ _ h => h) (Or.inr ⟨by rfl, rfl⟩) ?_ ?_
             rotate_left
             ·simp only [Act.put, List.setIfInBounds_toArray, List.set_cons_zero, List.set_cons_succ, i64_w, i32_w]
              rfl
             refine pure_ (i := 27) (N := some 87) (v := undef) (a' := ?_) (fl 28 2) rfl rfl (any_of HT_.out (by kernel_rfl)) (fun _ _ _ h => h) (Or.inr ⟨by rfl, rfl⟩) ?_ ?_
             rotate_left
             ·simp only [Act.put, List.setIfInBounds_toArray, List.set_cons_zero, List.set_cons_succ, i64_w, i32_w]
              rfl
             refine pure_ (i := 28) (N := some 88) (v := ?_) (a' := ?_) (fl 29 1) rfl rfl (any_of HT_.out (by kernel_rfl)) (fun _ _ _ h => h) (Or.inl ⟨by rfl, ?_⟩) ?_ ?_
             rotate_left; exact ga_; rotate_left; exact gb_
             refine pure_ (i := 29) (N := some 2) (v := ?_) (a' := ?_) (fl 30 0) rfl rfl (any_of HT_.out (by kernel_rfl)) (fun _ _ _ h => h) (Or.inl ⟨by rfl, ?_⟩) ?_ ?_
             rotate_left; exact ga_; rotate_left; exact gb_
             refine done_ (done_of HT_.out (by kernel_rfl)) ?_
             try go_wp2
             go_ret
             exact ⟨ret_now, b_now⟩
           ·rw [if_neg c33] at H
            have c33b0 : decide (0 ≤ a0_2) = false := decide_eq_false c33
            clear c33
            obtain rfl := Option.some.inj H
            try go_wp2
            have n0_ := Aside0.mk (blk_drew BK305.out)
            have n1_ := Aside0.mk (below_drew1 HB.out)
            clear BK305
            clear HB
            have BK305 := n0_
            have HB := n1_
            clear n0_ n1_
            refine start_ (n := 30) (S := fun w' => w'.cell? ⟨gb305, 0, none⟩ = some (.bool a0_0) ∧ w'.cell? ⟨gb305, 1, none⟩ = some (.int .i64 a0_1) ∧ w'.cell? ⟨gb305, 2, none⟩ = some (.int .i64 a0_2) ∧ w'.cell? ⟨gb305, 3, none⟩ = some (.int .i64 a0_3) ∧ w'.cell? ⟨gb305, 4, none⟩ = some (.int .u64 a0_4) ∧ w'.cell? ⟨gb305, 5, none⟩ = some (.int .u64 a0_5) ∧ w'.cell? ⟨gb305, 6, none⟩ = some (.int .u64 a0_6)) (ds := []) (fl 0 30) (by kernel_rfl) rfl rfl ⟨(blk_cell BK305.out 0).trans rfl, (blk_cell BK305.out 1).trans rfl, (blk_cell BK305.out 2).trans rfl, (blk_cell BK305.out 3).trans rfl, (blk_cell BK305.out 4).trans rfl, (blk_cell BK305.out 5).trans rfl, (blk_cell BK305.out 6).trans rfl⟩ (fun hHeld => ?_); refine with_tabW stockaderef18_May.tab9 stockaderef18_May.bits9 (fun HT_ HW_ => ?_)
            generalize wc.drew = w43 at BK305 HB hHeld ⊢
            refine pure_ (i := 0) (N := some 60) (v := ?_) (a' := ?_) (fl 1 29) rfl rfl (any_of HT_.out (by kernel_rfl)) (fun _ _ _ h => h) (Or.inl ⟨by rfl, ?_⟩) ?_ ?_
            rotate_left; exact ga_; rotate_left; exact gb_
            refine take_ (i := 1) (N := some 61) (v := ?_) (a' := ?_) (fl 2 28) rfl rfl (take_ofW HT_.out HW_.out (by kernel_rfl)) (fun _ _ _ h => h) (Or.inl ⟨by rfl, ?_⟩) hHeld ?_ ?_
            rotate_left; exact ga7_; rotate_left; exact gb_
            refine pure_ (i := 2) (N := some 62) (v := ?_) (a' := ?_) (fl 3 27) rfl rfl (any_of HT_.out (by kernel_rfl)) (fun _ _ _ h => h) (Or.inl ⟨by rfl, ?_⟩) ?_ ?_
            rotate_left; exact ga_; rotate_left; exact gb_
            refine pure_ (i := 3) (N := some 63) (v := ?_) (a' := ?_) (fl 4 26) rfl rfl (any_of HT_.out (by kernel_rfl)) (fun _ _ _ h => h) (Or.inl ⟨by rfl, ?_⟩) ?_ ?_
            rotate_left; exact ga_; rotate_left; exact gb_
            refine pure_ (i := 4) (N := some 64) (v := undef) (a' := ?_) (fl 5 25) rfl rfl (any_of HT_.out (by kernel_rfl)) (fun _ _ _ h => h) (Or.inr ⟨by rfl, rfl⟩) ?_ ?_
            rotate_left
            ·simp only [Act.put, List.setIfInBounds_toArray, List.set_cons_zero, List.set_cons_succ, i64_w, i32_w]
             rfl
            refine pure_ (i := 5) (N := some 65) (v := undef) (a' := ?_) (fl 6 24) rfl rfl (any_of HT_.out (by kernel_rfl)) (fun _ _ _ h => h) (Or.inr ⟨by rfl, rfl⟩) ?_ ?_
            rotate_left
            ·simp only [Act.put, List.setIfInBounds_toArray, List.set_cons_zero, List.set_cons_succ, i64_w, i32_w]
             rfl
            refine pure_ (i := 6) (N := some 66) (v := undef) (a' := ?_) (fl 7 23) rfl rfl (any_of HT_.out (by kernel_rfl)) (fun _ _ _ h => h) (Or.inr ⟨by rfl, rfl⟩) ?_ ?_
            rotate_left
            ·simp only [Act.put, List.setIfInBounds_toArray, List.set_cons_zero, List.set_cons_succ, i64_w, i32_w]
             rfl
            refine pure_ (i := 7) (N := some 67) (v := ?_) (a' := ?_) (fl 8 22) rfl rfl (any_of HT_.out (by kernel_rfl)) (fun _ _ _ h => h) (Or.inl ⟨by rfl, ?_⟩) ?_ ?_
            rotate_left; exact ga_; rotate_left; exact gb_
            refine pure_ (i := 8) (N := some 68) (v := ?_) (a' := ?_) (fl 9 21) rfl rfl (any_of HT_.out (by kernel_rfl)) (fun _ _ _ h => h) (Or.inl ⟨by rfl, ?_⟩) ?_ ?_
            rotate_left; exact ga_; rotate_left; exact gb_
            refine pure_ (i := 9) (N := some 69) (v := undef) (a' := ?_) (fl 10 20) rfl rfl (any_of HT_.out (by kernel_rfl)) (fun _ _ _ h => h) (Or.inr ⟨by rfl, rfl⟩) ?_ ?_
            rotate_left
            ·simp only [Act.put, List.setIfInBounds_toArray, List.set_cons_zero, List.set_cons_succ, i64_w, i32_w]
             rfl
            refine pure_ (i := 10) (N := some 70) (v := undef) (a' := ?_) (fl 11 19) rfl rfl (any_of HT_.out (by kernel_rfl)) (fun _ _ _ h => h) (Or.inr ⟨by rfl, rfl⟩) ?_ ?_
            rotate_left
            ·simp only [Act.put, List.setIfInBounds_toArray, List.set_cons_zero, List.set_cons_succ, i64_w, i32_w]
             rfl
            refine pure_ (i := 11) (N := some 71) (v := undef) (a' := ?_) (fl 12 18) rfl rfl (any_of HT_.out (by kernel_rfl)) (fun _ _ _ h => h) (Or.inr ⟨by rfl, rfl⟩) ?_ ?_
            rotate_left
            ·simp only [Act.put, List.setIfInBounds_toArray, List.set_cons_zero, List.set_cons_succ, i64_w, i32_w]
             rfl
            refine pure_ (i := 12) (N := some 72) (v := ?_) (a' := ?_) (fl 13 17) rfl rfl (any_of HT_.out (by kernel_rfl)) (fun _ _ _ h => h) (Or.inl ⟨by rfl, ?_⟩) ?_ ?_
            rotate_left; exact ga_; rotate_left; exact gb_
            refine pure_ (i := 13) (N := some 73) (v := ?_) (a' := ?_) (fl 14 16) rfl rfl (any_of HT_.out (by kernel_rfl)) (fun _ _ _ h => h) (Or.inl ⟨by rfl, ?_⟩) ?_ ?_
            rotate_left; exact ga_; rotate_left; exact gb_
            refine pure_ (i := 14) (N := some 74) (v := undef) (a' := ?_) (fl 15 15) rfl rfl (any_of HT_.out (by kernel_rfl)) (fun _ _ _ h => h) (Or.inr ⟨by rfl, rfl⟩) ?_ ?_
            rotate_left
            ·simp only [Act.put, List.setIfInBounds_toArray, List.set_cons_zero, List.set_cons_succ, i64_w, i32_w]
             rfl
            refine pure_ (i := 15) (N := some 75) (v := undef) (a' := ?_) (fl 16 14) rfl rfl (any_of HT_.out (by kernel_rfl)) (fun _ _ _ h => h) (Or.inr ⟨by rfl, rfl⟩) ?_ ?_
            rotate_left
            ·simp only [Act.put, List.setIfInBounds_toArray, List.set_cons_zero, List.set_cons_succ, i64_w, i32_w]
             rfl
            refine pure_ (i := 16) (N := some 76) (v := undef) (a' := ?_) (fl 17 13) rfl rfl (any_of HT_.out (by kernel_rfl)) (fun _ _ _ h => h) (Or.inr ⟨by rfl, rfl⟩) ?_ ?_
            rotate_left
            ·simp only [Act.put, List.setIfInBounds_toArray, List.set_cons_zero, List.set_cons_succ, i64_w, i32_w]
             rfl
            refine pure_ (i := 17) (N := some 77) (v := undef) (a' := ?_) (fl 18 12) rfl rfl (any_of HT_.out (by kernel_rfl)) (fun _ _ _ h => h) (Or.inr ⟨by rfl, rfl⟩) ?_ ?_
            rotate_left
            ·simp only [Act.put, List.setIfInBounds_toArray, List.set_cons_zero, List.set_cons_succ, i64_w, i32_w]
             rfl
            refine pure_ (i := 18) (N := some 78) (v := undef) (a' := ?_) (fl 19 11) rfl rfl (any_of HT_.out (by kernel_rfl)) (fun _ _ _ h => h) (Or.inr ⟨by rfl, rfl⟩) ?_ ?_
            rotate_left
            ·simp only [Act.put, List.setIfInBounds_toArray, List.set_cons_zero, List.set_cons_succ, i64_w, i32_w]
             rfl
            refine pure_ (i := 19) (N := some 79) (v := undef) (a' := ?_) (fl 20 10) rfl rfl (any_of HT_.out (by kernel_rfl)) (fun _ _ _ h => h) (Or.inr ⟨by rfl, rfl⟩) ?_ ?_
            rotate_left
            ·simp only [Act.put, List.setIfInBounds_toArray, List.set_cons_zero, List.set_cons_succ, i64_w, i32_w]
             rfl
            refine pure_ (i := 20) (N := some 80) (v := ?_) (a' := ?_) (fl 21 9) rfl rfl (any_of HT_.out (by kernel_rfl)) (fun _ _ _ h => h) (Or.inl ⟨by rfl, ?_⟩) ?_ ?_
            rotate_left; exact ga_; rotate_left; exact gb_
            refine pure_ (i := 21) (N := some 81) (v := ?_) (a' := ?_) (fl 22 8) rfl rfl (any_of HT_.out (by kernel_rfl)) (fun _ _ _ h => h) (Or.inl ⟨by rfl, ?_⟩) ?_ ?_
            rotate_left; exact ga_; rotate_left; exact gb_
            refine pure_ (i := 22) (N := some 82) (v := undef) (a' := ?_) (fl 23 7) rfl rfl (any_of HT_.out (by kernel_rfl)) (fun _ _ _ h => h) (Or.inr ⟨by rfl, rfl⟩) ?_ ?_
            rotate_left
            ·simp only [Act.put, List.setIfInBounds_toArray, List.set_cons_zero, List.set_cons_succ, i64_w, i32_w]
             rfl
            refine pure_ (i := 23) (N := some 83) (v := undef) (a' := ?_) (fl 24 6) rfl rfl (any_of HT_.out (by kernel_rfl)) (fun _ _ _ h => h) (Or.inr ⟨by rfl, rfl⟩) ?_ ?_
            rotate_left
            ·simp only [Act.put, List.setIfInBounds_toArray, List.set_cons_zero, List.set_cons_succ, i64_w, i32_w]
             rfl
            refine pure_ (i := 24) (N := some 84) (v := undef) (a' := ?_) (fl 25 5) rfl rfl (any_of HT_.out (by kernel_rfl)) (fun _ _ _ h => h) (Or.inr ⟨by rfl, rfl⟩) ?_ ?_
            rotate_left
            ·simp only [Act.put, List.setIfInBounds_toArray, List.set_cons_zero, List.set_cons_succ, i64_w, i32_w]
             rfl
            refine pure_ (i := 25) (N := some 85) (v := undef) (a' := ?_) (fl 26 4) rfl rfl (any_of HT_.out (by kernel_rfl)) (fun _ _ _ h => h) (Or.inr ⟨by rfl, rfl⟩) ?_ ?_
            rotate_left
            ·simp only [Act.put, List.setIfInBounds_toArray, List.set_cons_zero, List.set_cons_succ, i64_w, i32_w]
             rfl
            refine pure_ (i := 26) (N := some 86) (v := undef) (a' := ?_) (fl 27 3) rfl rfl (any_of HT_.out (by kernel_rfl)) (fun _ _ _ h => h) (Or.inr ⟨by rfl, rfl⟩) ?_ ?_
            rotate_left
            ·simp only [Act.put, List.setIfInBounds_toArray, List.set_cons_zero, List.set_cons_succ, i64_w, i32_w]
             rfl
            refine pure_ (i := 27) (N := some 87) (v := undef) (a' := ?_) (fl 28 2) rfl rfl (any_of HT_.out (by kernel_rfl)) (fun _ _ _ h => h) (Or.inr ⟨by rfl, rfl⟩) ?_ ?_
            rotate_left
            ·simp only [Act.put, List.setIfInBounds_toArray, List.set_cons_zero, List.set_cons_succ, i64_w, i32_w]
             rfl
            refine pure_ (i := 28) (N := some 88) (v := ?_) (a' := ?_) (fl 29 1) rfl rfl (any_of HT_.out (by kernel_rfl)) (fun _ _ _ h => h) (Or.inl ⟨by rfl, ?_⟩) ?_ ?_
            rotate_left; exact ga_; rotate_left; exact gb_
            refine pure_ (i := 29) (N := some 2) (v := ?_) (a' := ?_) (fl 30 0) rfl rfl (any_of HT_.out (by kernel_rfl)) (fun _ _ _ h => h) (Or.inl ⟨by rfl, ?_⟩) ?_ ?_
            rotate_left; exact ga_; rotate_left; exact gb_
            refine done_ (done_of HT_.out (by kernel_rfl)) ?_
            try go_wp2
            go_ret
            exact ⟨ret_now, b_now⟩

end Go.Proofs.YtighficpbplkhaaDoor.P
