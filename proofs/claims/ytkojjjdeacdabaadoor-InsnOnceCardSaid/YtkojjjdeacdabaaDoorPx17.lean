/- Made by this session's driver over the kit's printer: for each Go function a Lean function with the same answers, and a proof that the Go call comes to these answers; no conditions but the ones each theorem names. -/
import Derived.Test.YtkojjjdeacdabaaDoorPx0
import Derived.Test.YtkojjjdeacdabaaDoorPx1
import Derived.Test.YtkojjjdeacdabaaDoorPx2
import Derived.Test.YtkojjjdeacdabaaDoorPx6
import Derived.Test.YtkojjjdeacdabaaDoorPx10
import Derived.Test.YtkojjjdeacdabaaDoorPx14
namespace Go.Proofs.YtkojjjdeacdabaaDoor.P
open Go.RowKit Go.Proofs.YtkojjjdeacdabaaDoorW.PrintWords Go.Proofs.YtkojjjdeacdabaaDoorW.PrintLast Go.Proofs.YtkojjjdeacdabaaDoorW.PrintMore
attribute [local go_sem] max2_int min2_int max_two min_two max_three min_three max_four min_four   -- for this text's walks alone
set_option linter.unusedVariables false
set_option linter.unusedSimpArgs false

attribute [local go_sem high] eqA24 eqA26
/-! ### stockadelaw02_InsnOnce: function 8 -/
def stockadelaw02_InsnOnce.j0 : Nat → Int → Int → Int → Bool → Bool → Int → Int → Int → Int → Int → Option (Bool)
 | 0, _, _, _, _, _, _, _, _, _, _ => none
 | k + 1, x441000, x441001, x441002, x441003, x441004, x442000, x442001, x442002, x442003, x442004 => (insn_Make.f k x441000 x441001 x441002 x441003 x441004 x442000 x442001 x442002 x442003 x442004).bind fun bt464 => (if bt464.2.2.2.2.2 = 0 then ((insn_Of.f k bt464.1 bt464.2.1 bt464.2.2.1 bt464.2.2.2.1 bt464.2.2.2.2.1).bind fun bt471 => (if bt471.2.2.2.2.2 = 0 then (if (bt471.1 == x441000 && (bt471.2.1 == x441001 && (bt471.2.2.1 == x441002 && (bt471.2.2.2.1 == x441003 && (bt471.2.2.2.2.1 == x441004))))) = true then (if bt464.2.1 = x442001 then (if bt464.2.2.2.1 = x442003 then ((stockadelaw02_wakes.f k).bind fun t478 => (some t478)) else (some false)) else (some false)) else (some false)) else (some false))) else (if (bt464.1 == 0 && (bt464.2.1 == 0 && (bt464.2.2.1 == 0 && (bt464.2.2.2.1 == 0 && (bt464.2.2.2.2.1 == 0))))) = true then (if bt464.2.2.2.2.2 = 1 then ((stockadelaw02_wakes.f k).bind fun t479 => (some t479)) else (if bt464.2.2.2.2.2 = 21 then ((stockadelaw02_wakes.f k).bind fun t480 => (some t480)) else (if bt464.2.2.2.2.2 = 22 then ((stockadelaw02_wakes.f k).bind fun t481 => (some t481)) else (some false)))) else (some false)))
def stockadelaw02_InsnOnce.f (k : Nat) (a0_0 : Int) (a0_1 : Int) (a0_2 : Int) (a0_3 : Int) (a0_4 : Int) (a1_0 : Int) (a1_1 : Int) (a1_2 : Int) (a1_3 : Bool) (a1_4 : Bool) (a2_0 : Int) (a2_1 : Int) (a2_2 : Int) (a2_3 : Int) (a2_4 : Int) : Option (Bool) := (insn_Of.f k a0_0 a0_1 a0_2 a0_3 a0_4).bind fun bt442 => (if bt442.2.2.2.2.2 = 0 then ((insn_Make.f k bt442.1 bt442.2.1 bt442.2.2.1 bt442.2.2.2.1 bt442.2.2.2.2.1 a0_0 a0_1 a0_2 a0_3 a0_4).bind fun bt449 => ((insn_Make.f k bt442.1 bt442.2.1 bt442.2.2.1 bt442.2.2.2.1 bt442.2.2.2.2.1 0 a0_1 a0_2 a0_3 a0_4).bind fun bt457 => (if bt449.2.2.2.2.2 = 0 then (if (!(bt449.1 == a0_0) || (!(bt449.2.1 == a0_1) || (!(bt449.2.2.1 == a0_2) || (!(bt449.2.2.2.1 == a0_3) || (!(bt449.2.2.2.2.1 == a0_4)))))) = true then (some false) else (if bt457.2.2.2.2.2 = 0 then (if (!(bt457.1 == a0_0) || (!(bt457.2.1 == a0_1) || (!(bt457.2.2.1 == a0_2) || (!(bt457.2.2.2.1 == a0_3) || (!(bt457.2.2.2.2.1 == a0_4)))))) = true then (some false) else (stockadelaw02_InsnOnce.j0 k a1_0 a1_1 a1_2 a1_3 a1_4 a2_0 a2_1 a2_2 a2_3 a2_4)) else (some false))) else (some false)))) else (stockadelaw02_InsnOnce.j0 k a1_0 a1_1 a1_2 a1_3 a1_4 a2_0 a2_1 a2_2 a2_3 a2_4))
theorem stockadelaw02_InsnOnce.mono_l : ∀ k, (∀ y0 y1 y2 y3 y4 y5 y6 y7 y8 y9, LeO (stockadelaw02_InsnOnce.j0 k y0 y1 y2 y3 y4 y5 y6 y7 y8 y9) (stockadelaw02_InsnOnce.j0 (k + 1) y0 y1 y2 y3 y4 y5 y6 y7 y8 y9))
 | 0 => fun _ _ _ _ _ _ _ _ _ _ r h => by simp [stockadelaw02_InsnOnce.j0] at h
 | k + 1 => by
  have ih0 := stockadelaw02_InsnOnce.mono_l k
  ·intro y0 y1 y2 y3 y4 y5 y6 y7 y8 y9
   unfold stockadelaw02_InsnOnce.j0
   repeat' first
   | (with_reducible exact ih0 _ _ _ _ _ _ _ _ _ _)
   | (with_reducible exact insn_Make.mono _ _ _ _ _ _ _ _ _ _ _)
   | (with_reducible exact insn_Of.mono _ _ _ _ _ _)
   | (with_reducible exact stockadelaw02_wakes.mono _)
   | (with_reducible exact LeO.refl _)
   | (with_reducible exact LeO.none _)
   | (with_reducible refine LeO.ite ?_ ?_)
   | (with_reducible refine LeO.bind ?_ (fun _ => ?_))
   | exact ih0 _ _ _ _ _ _ _ _ _ _
   | exact insn_Make.mono _ _ _ _ _ _ _ _ _ _ _
   | exact insn_Of.mono _ _ _ _ _ _
   | exact stockadelaw02_wakes.mono _
   | exact LeO.none _
   | refine LeO.ite ?_ ?_
   | refine LeO.bind ?_ (fun _ => ?_)
theorem stockadelaw02_InsnOnce.mono : ∀ a0 a1 a2 a3 a4 a5 a6 a7 a8 a9 a10 a11 a12 a13 a14 k, LeO (stockadelaw02_InsnOnce.f k a0 a1 a2 a3 a4 a5 a6 a7 a8 a9 a10 a11 a12 a13 a14) (stockadelaw02_InsnOnce.f (k + 1) a0 a1 a2 a3 a4 a5 a6 a7 a8 a9 a10 a11 a12 a13 a14) := by
 intro a0 a1 a2 a3 a4 a5 a6 a7 a8 a9 a10 a11 a12 a13 a14 k
 have ih0 := stockadelaw02_InsnOnce.mono_l k
 unfold stockadelaw02_InsnOnce.f
 repeat' first
   | (with_reducible exact ih0 _ _ _ _ _ _ _ _ _ _)
   | (with_reducible exact insn_Make.mono _ _ _ _ _ _ _ _ _ _ _)
   | (with_reducible exact insn_Of.mono _ _ _ _ _ _)
   | (with_reducible exact stockadelaw02_wakes.mono _)
   | (with_reducible exact LeO.refl _)
   | (with_reducible exact LeO.none _)
   | (with_reducible refine LeO.ite ?_ ?_)
   | (with_reducible refine LeO.bind ?_ (fun _ => ?_))
   | exact ih0 _ _ _ _ _ _ _ _ _ _
   | exact insn_Make.mono _ _ _ _ _ _ _ _ _ _ _
   | exact insn_Of.mono _ _ _ _ _ _
   | exact stockadelaw02_wakes.mono _
   | exact LeO.none _
   | refine LeO.ite ?_ ?_
   | refine LeO.bind ?_ (fun _ => ?_)
set_option maxHeartbeats 8000000 in
set_option maxRecDepth 100000 in
theorem stockadelaw02_InsnOnce.calls (k : Nat) (a0_0 : Int) (a0_1 : Int) (a0_2 : Int) (a0_3 : Int) (a0_4 : Int) (a1_0 : Int) (a1_1 : Int) (a1_2 : Int) (a1_3 : Bool) (a1_4 : Bool) (a2_0 : Int) (a2_1 : Int) (a2_2 : Int) (a2_3 : Int) (a2_4 : Int) (r : Bool) (w : World) (hrG0 : Kd.C (Kd.int .i64) w (some ⟨0, 0, none⟩) gl0.length gl0) (hr_ : r = true) (h : stockadelaw02_InsnOnce.f k a0_0 a0_1 a0_2 a0_3 a0_4 a1_0 a1_1 a1_2 a1_3 a1_4 a2_0 a2_1 a2_2 a2_3 a2_4 = some r) :
  Calls Tryd.prog 8 #[.agg #[.int .u8 a0_0, .int .u8 a0_1, .int .u8 a0_2, .int .i16 a0_3, .int .i32 a0_4], .agg #[.int .i64 a1_0, .int .i64 a1_1, .int .i64 a1_2, .bool a1_3, .bool a1_4], .agg #[.int .u8 a2_0, .int .u8 a2_1, .int .u8 a2_2, .int .i16 a2_3, .int .i32 a2_4]] w fun e w' => e = .returned (.bool r) ∧ Below w.heap.size w w' := by
 have hu24 := Tryd.underlying24
 have hu26 := Tryd.underlying26
 have HRG0 := Aside0.mk hrG0
 clear hrG0
 have HRT := Aside0.mk hr_
 clear hr_
 have HB := Aside0.mk (Below.refl w.heap.size w)
 have H : ((insn_Of.f k a0_0 a0_1 a0_2 a0_3 a0_4).bind fun bt442 => (if bt442.2.2.2.2.2 = 0 then ((insn_Make.f k bt442.1 bt442.2.1 bt442.2.2.1 bt442.2.2.2.1 bt442.2.2.2.2.1 a0_0 a0_1 a0_2 a0_3 a0_4).bind fun bt449 => ((insn_Make.f k bt442.1 bt442.2.1 bt442.2.2.1 bt442.2.2.2.1 bt442.2.2.2.2.1 0 a0_1 a0_2 a0_3 a0_4).bind fun bt457 => (if bt449.2.2.2.2.2 = 0 then (if (!(bt449.1 == a0_0) || (!(bt449.2.1 == a0_1) || (!(bt449.2.2.1 == a0_2) || (!(bt449.2.2.2.1 == a0_3) || (!(bt449.2.2.2.2.1 == a0_4)))))) = true then (some false) else (if bt457.2.2.2.2.2 = 0 then (if (!(bt457.1 == a0_0) || (!(bt457.2.1 == a0_1) || (!(bt457.2.2.1 == a0_2) || (!(bt457.2.2.2.1 == a0_3) || (!(bt457.2.2.2.2.1 == a0_4)))))) = true then (some false) else (stockadelaw02_InsnOnce.j0 k a1_0 a1_1 a1_2 a1_3 a1_4 a2_0 a2_1 a2_2 a2_3 a2_4)) else (some false))) else (some false)))) else (stockadelaw02_InsnOnce.j0 k a1_0 a1_1 a1_2 a1_3 a1_4 a2_0 a2_1 a2_2 a2_3 a2_4))) = some r := h
 clear h
 replace H := Option.bind_eq_some_iff.mp H; obtain ⟨⟨t442, t443, t444, t445, t446, t447⟩, A40, H⟩ := H; try dsimp only at H
 have A4 := Aside0.mk A40
 clear A40
 have HC5 := Aside0.mk H
 clear H
 go_enter Tryd.func8, Tryd.ntmps8
 go_upto_if 24 with (first | ((with_reducible refine gate_dst (N := 3) rfl ?_); refine sh_box 3 #[.int .u8 a0_0, .int .u8 a0_1, .int .u8 a0_2, .int .i16 a0_3, .int .i32 a0_4] 24 ?_; intro gb439 hg w6 hbox hb; have GE439 := sh_z (w := w) hg; replace HB := sh_b (w := w) hb; have BK439 := Aside0.mk (hbox); clear hb hbox hg) | ((with_reducible refine gate_dst (N := 4) rfl ?_); refine sh_box 4 #[.int .i64 a1_0, .int .i64 a1_1, .int .i64 a1_2, .bool a1_3, .bool a1_4] 26 ?_; intro gb440 hg w7 hbox hb; have GE440 := sh_z (w := w) hg; have NB439_440 := sh_n BK439 hg; have NB440_439 := sh_s NB439_440; replace BK439 := sh_k BK439 hb; replace HB := sh_b (w := w) hb; have BK440 := Aside0.mk (hbox); clear hb hbox hg) | ((with_reducible refine gate_dst (N := 5) rfl ?_); refine sh_box 5 #[.int .u8 a2_0, .int .u8 a2_1, .int .u8 a2_2, .int .i16 a2_3, .int .i32 a2_4] 24 ?_; intro gb441 hg w8 hbox hb; have GE441 := sh_z (w := w) hg; have NB439_441 := sh_n BK439 hg; have NB440_441 := sh_n BK440 hg; have NB441_439 := sh_s NB439_441; have NB441_440 := sh_s NB440_441; replace BK439 := sh_k BK439 hb; replace BK440 := sh_k BK440 hb; replace HB := sh_b (w := w) hb; have BK441 := Aside0.mk (hbox); clear hb hbox hg; have hnb9 := NB439_440.out; have hnc9 := NB440_439.out; have hnb10 := NB439_441.out; have hnc10 := NB441_439.out; have hcz11 := blk_all5 BK439.out) | ((with_reducible refine gate_callee (f := 12) rfl ?_); refine sh_call (some 20) Tryd.func12 #[.agg #[.int .u8 a0_0, .int .u8 a0_1, .int .u8 a0_2, .int .i16 a0_3, .int .i32 a0_4]] ?_; (with_reducible refine (insn_Of.calls k a0_0 a0_1 a0_2 a0_3 a0_4 t442 t443 t444 t445 t446 t447 _ ?side1 A4.out).mono ?_); (case side1 => repeat (first | exact (Kd.C_below HRG0.out HB.out) | (with_reducible refine Kd.C_alloc ?_ _) | (with_reducible refine Kd.C_drewN ?_ _) | (with_reducible refine Kd.C_drew ?_))); rintro e w12 ⟨rfl, hb⟩; refine ⟨_, rfl, ?_⟩; replace BK439 := sh_k BK439 hb; replace BK440 := sh_k BK440 hb; replace BK441 := sh_k BK441 hb; replace HB := sh_b (w := w) hb; (try clear hb); (try clear hb2); (try clear hk); (try clear hi)) | ((with_reducible refine gate_dst (N := 7) rfl ?_); refine sh_box 7 #[.int .i64 0, .int .i64 0, .int .i64 0, .bool false, .bool false] 26 ?_; intro gb448 hg w13 hbox hb; have GE448 := sh_z (w := w) hg; have NB439_448 := sh_n BK439 hg; have NB440_448 := sh_n BK440 hg; have NB441_448 := sh_n BK441 hg; have NB448_439 := sh_s NB439_448; have NB448_440 := sh_s NB440_448; have NB448_441 := sh_s NB441_448; replace BK439 := sh_k BK439 hb; replace BK440 := sh_k BK440 hb; replace BK441 := sh_k BK441 hb; replace HB := sh_b (w := w) hb; have BK448 := Aside0.mk (hbox); clear hb hbox hg; have hnb14 := NB448_439.out; have hnc14 := NB439_448.out; have hnb15 := NB448_440.out; have hnc15 := NB440_448.out; have hnb16 := NB448_441.out; have hnc16 := NB441_448.out; have hcz17 := blk_all5 BK448.out))
 (try simp only [Act.put, List.setIfInBounds_toArray, List.set_cons_zero, List.set_cons_succ])
 go_cut [] (fun wc => ∃ (kq : Nat), Aside0 (stockadelaw02_InsnOnce.j0 kq a1_0 a1_1 a1_2 a1_3 a1_4 a2_0 a2_1 a2_2 a2_3 a2_4 = some r) ∧ Aside0 (kq ≤ k) ∧ Aside0 (wc.heap[gb439]? = some (.cells #[.int .u8 a0_0, .int .u8 a0_1, .int .u8 a0_2, .int .i16 a0_3, .int .i32 a0_4] 24 (0, 0))) ∧ Aside0 (wc.heap[gb440]? = some (.cells #[.int .i64 a1_0, .int .i64 a1_1, .int .i64 a1_2, .bool a1_3, .bool a1_4] 26 (0, 0))) ∧ Aside0 (wc.heap[gb441]? = some (.cells #[.int .u8 a2_0, .int .u8 a2_1, .int .u8 a2_2, .int .i16 a2_3, .int .i32 a2_4] 24 (0, 0))) ∧ Aside0 (wc.heap[gb448]? = some (.cells #[.int .i64 t442, .int .i64 t443, .int .i64 t444, .bool t445, .bool t446] 26 (0, 0))) ∧ Aside0 (Below w.heap.size w wc))
 case first =>
  have H := HC5.out
  clear HC5
  by_cases c18 : t447 = 0
  ·rw [if_pos c18] at H
   have c18b0 : (t447 == 0) = true := beq_iff_eq.mpr c18
   have c18b1 : (t447 != 0) = false := bne_eq_false_iff_eq.mpr c18
   clear c18
   (first | rw [c18b0] | (simp only [i64_w, i32_w]; rw [c18b0]) | skip)
   replace H := Option.bind_eq_some_iff.mp H; obtain ⟨⟨t449, t450, t451, t452, t453, t454⟩, A190, H⟩ := H; try dsimp only at H
   have A19 := Aside0.mk A190
   clear A190
   replace H := Option.bind_eq_some_iff.mp H; obtain ⟨⟨t457, t458, t459, t460, t461, t462⟩, A200, H⟩ := H; try dsimp only at H
   have A20 := Aside0.mk A200
   clear A200
   by_cases c21 : t454 = 0
   ·rw [if_pos c21] at H
    have c21b0 : (t454 == 0) = true := beq_iff_eq.mpr c21
    have c21b1 : (t454 != 0) = false := bne_eq_false_iff_eq.mpr c21
    clear c21
    by_cases c22 : (!(t449 == a0_0) || (!(t450 == a0_1) || (!(t451 == a0_2) || (!(t452 == a0_3) || (!(t453 == a0_4)))))) = true
    ·rw [if_pos c22] at H
     have c22b0 : (!(t449 == a0_0) || (!(t450 == a0_1) || (!(t451 == a0_2) || (!(t452 == a0_3) || (!(t453 == a0_4)))))) = true := c22
     clear c22
     obtain rfl := Option.some.inj H
     exact absurd HRT.out (by simp)
    ·rw [if_neg c22] at H
     have c22b0 : (!(t449 == a0_0) || (!(t450 == a0_1) || (!(t451 == a0_2) || (!(t452 == a0_3) || (!(t453 == a0_4)))))) = false := by simpa using c22
     clear c22
     by_cases c23 : t462 = 0
     ·rw [if_pos c23] at H
      have c23b0 : (t462 == 0) = true := beq_iff_eq.mpr c23
      have c23b1 : (t462 != 0) = false := bne_eq_false_iff_eq.mpr c23
      clear c23
      by_cases c24 : (!(t457 == a0_0) || (!(t458 == a0_1) || (!(t459 == a0_2) || (!(t460 == a0_3) || (!(t461 == a0_4)))))) = true
      ·rw [if_pos c24] at H
       have c24b0 : (!(t457 == a0_0) || (!(t458 == a0_1) || (!(t459 == a0_2) || (!(t460 == a0_3) || (!(t461 == a0_4)))))) = true := c24
       clear c24
       obtain rfl := Option.some.inj H
       exact absurd HRT.out (by simp)
      ·rw [if_neg c24] at H
       have c24b0 : (!(t457 == a0_0) || (!(t458 == a0_1) || (!(t459 == a0_2) || (!(t460 == a0_3) || (!(t461 == a0_4)))))) = false := by simpa using c24
       clear c24
       have H' := Aside0.mk H
       clear H
       have hnb25 := NB448_439.out
       have hnc25 := NB439_448.out
       have hnb26 := NB448_440.out
       have hnc26 := NB440_448.out
       have hnb27 := NB448_441.out
       have hnc27 := NB441_448.out
       have hcz28 := blk_all5 BK448.out
       have hnb29 := NB439_440.out
       have hnc29 := NB440_439.out
       have hnb30 := NB439_441.out
       have hnc30 := NB441_439.out
       have hcz31 := blk_all5 BK439.out
       go_wp2_with (first | ((with_reducible refine gate_callee (f := 21) rfl ?_); refine sh_call (some 28) Tryd.func21 #[.agg #[.int .i64 t442, .int .i64 t443, .int .i64 t444, .bool t445, .bool t446], .agg #[.int .u8 a0_0, .int .u8 a0_1, .int .u8 a0_2, .int .i16 a0_3, .int .i32 a0_4]] ?_; (with_reducible refine (insn_Make.calls k t442 t443 t444 t445 t446 a0_0 a0_1 a0_2 a0_3 a0_4 t449 t450 t451 t452 t453 t454 _ ?side1 A19.out).mono ?_); (case side1 => exact Kd.C_below HRG0.out b_now); rintro e w32 ⟨rfl, hb⟩; refine ⟨_, rfl, ?_⟩; replace BK439 := sh_kp (g := gb439) (t := 24) #[.int .u8 a0_0, .int .u8 a0_1, .int .u8 a0_2, .int .i16 a0_3, .int .i32 a0_4] hb; replace BK440 := sh_kp (g := gb440) (t := 26) #[.int .i64 a1_0, .int .i64 a1_1, .int .i64 a1_2, .bool a1_3, .bool a1_4] hb; replace BK441 := sh_kp (g := gb441) (t := 24) #[.int .u8 a2_0, .int .u8 a2_1, .int .u8 a2_2, .int .i16 a2_3, .int .i32 a2_4] hb; replace BK448 := sh_kp (g := gb448) (t := 26) #[.int .i64 t442, .int .i64 t443, .int .i64 t444, .bool t445, .bool t446] hb; replace HB := sh_b (w := w) hb; (try clear hb); (try clear hb2); (try clear hk); (try clear hi)) | ((with_reducible refine gate_dst (N := 9) rfl ?_); refine sh_box 9 #[.int .u8 0, .int .u8 0, .int .u8 0, .int .i16 0, .int .i32 0] 24 ?_; intro gb455 hg w33 hbox hb; have GE455 := sh_z (w := w) hg; have NB439_455 := sh_n BK439 hg; have NB440_455 := sh_n BK440 hg; have NB441_455 := sh_n BK441 hg; have NB448_455 := sh_n BK448 hg; have NB455_439 := sh_s NB439_455; have NB455_440 := sh_s NB440_455; have NB455_441 := sh_s NB441_455; have NB455_448 := sh_s NB448_455; replace BK439 := sh_k BK439 hb; replace BK440 := sh_k BK440 hb; replace BK441 := sh_k BK441 hb; replace BK448 := sh_k BK448 hb; replace HB := sh_b (w := w) hb; have BK455 := Aside0.mk (hbox); clear hb hbox hg; have hnb34 := NB455_439.out; have hnc34 := NB439_455.out; have hnb35 := NB455_440.out; have hnc35 := NB440_455.out; have hnb36 := NB455_441.out; have hnc36 := NB441_455.out; have hnb37 := NB455_448.out; have hnc37 := NB448_455.out; have hcz38 := blk_all5 BK455.out; have hcz39 := blk_all5 BK439.out) | ((with_reducible refine gate_dst (N := 11) rfl ?_); refine sh_box 11 #[.int .u8 0, .int .u8 0, .int .u8 0, .int .i16 0, .int .i32 0] 24 ?_; intro gb456 hg w40 hbox hb; have GE456 := sh_z (w := w) hg; have NB439_456 := sh_n BK439 hg; have NB440_456 := sh_n BK440 hg; have NB441_456 := sh_n BK441 hg; have NB448_456 := sh_n BK448 hg; have NB455_456 := sh_n BK455 hg; have NB456_439 := sh_s NB439_456; have NB456_440 := sh_s NB440_456; have NB456_441 := sh_s NB441_456; have NB456_448 := sh_s NB448_456; have NB456_455 := sh_s NB455_456; replace BK439 := sh_kp (g := gb439) (t := 24) #[.int .u8 a0_0, .int .u8 a0_1, .int .u8 a0_2, .int .i16 a0_3, .int .i32 a0_4] hb; replace BK440 := sh_kp (g := gb440) (t := 26) #[.int .i64 a1_0, .int .i64 a1_1, .int .i64 a1_2, .bool a1_3, .bool a1_4] hb; replace BK441 := sh_kp (g := gb441) (t := 24) #[.int .u8 a2_0, .int .u8 a2_1, .int .u8 a2_2, .int .i16 a2_3, .int .i32 a2_4] hb; replace BK448 := sh_kp (g := gb448) (t := 26) #[.int .i64 t442, .int .i64 t443, .int .i64 t444, .bool t445, .bool t446] hb; replace BK455 := sh_kp (g := gb455) (t := 24) #[.int .u8 t449, .int .u8 t450, .int .u8 t451, .int .i16 t452, .int .i32 t453] hb; replace HB := sh_b (w := w) hb; have BK456 := Aside0.mk (hbox); clear hb hbox hg; have hnb41 := NB456_439.out; have hnc41 := NB439_456.out; have hnb42 := NB456_440.out; have hnc42 := NB440_456.out; have hnb43 := NB456_441.out; have hnc43 := NB441_456.out; have hnb44 := NB456_448.out; have hnc44 := NB448_456.out; have hnb45 := NB456_455.out; have hnc45 := NB455_456.out; have hcz46 := blk_all5 BK456.out; have hcz47 := blk_all5 BK448.out) | ((with_reducible refine gate_callee (f := 21) rfl ?_); refine sh_call (some 36) Tryd.func21 #[.agg #[.int .i64 t442, .int .i64 t443, .int .i64 t444, .bool t445, .bool t446], .agg #[.int .u8 0, .int .u8 a0_1, .int .u8 a0_2, .int .i16 a0_3, .int .i32 a0_4]] ?_; (with_reducible refine (insn_Make.calls k t442 t443 t444 t445 t446 0 a0_1 a0_2 a0_3 a0_4 t457 t458 t459 t460 t461 t462 _ ?side1 A20.out).mono ?_); (case side1 => exact Kd.C_below HRG0.out b_now); rintro e w48 ⟨rfl, hb⟩; refine ⟨_, rfl, ?_⟩; replace BK439 := sh_kp (g := gb439) (t := 24) #[.int .u8 a0_0, .int .u8 a0_1, .int .u8 a0_2, .int .i16 a0_3, .int .i32 a0_4] hb; replace BK440 := sh_kp (g := gb440) (t := 26) #[.int .i64 a1_0, .int .i64 a1_1, .int .i64 a1_2, .bool a1_3, .bool a1_4] hb; replace BK441 := sh_kp (g := gb441) (t := 24) #[.int .u8 a2_0, .int .u8 a2_1, .int .u8 a2_2, .int .i16 a2_3, .int .i32 a2_4] hb; replace BK448 := sh_kp (g := gb448) (t := 26) #[.int .i64 t442, .int .i64 t443, .int .i64 t444, .bool t445, .bool t446] hb; replace BK455 := sh_kp (g := gb455) (t := 24) #[.int .u8 t449, .int .u8 t450, .int .u8 t451, .int .i16 t452, .int .i32 t453] hb; replace BK456 := sh_kp (g := gb456) (t := 24) #[.int .u8 0, .int .u8 a0_1, .int .u8 a0_2, .int .i16 a0_3, .int .i32 a0_4] hb; replace HB := sh_b (w := w) hb; (try clear hb); (try clear hb2); (try clear hk); (try clear hi)) | ((with_reducible refine gate_dst (N := 12) rfl ?_); refine sh_box 12 #[.int .u8 0, .int .u8 0, .int .u8 0, .int .i16 0, .int .i32 0] 24 ?_; intro gb463 hg w49 hbox hb; have GE463 := sh_z (w := w) hg; have NB439_463 := sh_n BK439 hg; have NB440_463 := sh_n BK440 hg; have NB441_463 := sh_n BK441 hg; have NB448_463 := sh_n BK448 hg; have NB455_463 := sh_n BK455 hg; have NB456_463 := sh_n BK456 hg; have NB463_439 := sh_s NB439_463; have NB463_440 := sh_s NB440_463; have NB463_441 := sh_s NB441_463; have NB463_448 := sh_s NB448_463; have NB463_455 := sh_s NB455_463; have NB463_456 := sh_s NB456_463; replace BK439 := sh_k BK439 hb; replace BK440 := sh_k BK440 hb; replace BK441 := sh_k BK441 hb; replace BK448 := sh_k BK448 hb; replace BK455 := sh_k BK455 hb; replace BK456 := sh_k BK456 hb; replace HB := sh_b (w := w) hb; have BK463 := Aside0.mk (hbox); clear hb hbox hg; have hnb50 := NB463_439.out; have hnc50 := NB439_463.out; have hnb51 := NB463_440.out; have hnc51 := NB440_463.out; have hnb52 := NB463_441.out; have hnc52 := NB441_463.out; have hnb53 := NB463_448.out; have hnc53 := NB448_463.out; have hnb54 := NB463_455.out; have hnc54 := NB455_463.out; have hnb55 := NB463_456.out; have hnc55 := NB456_463.out; have hcz56 := blk_all5 BK463.out; have hcz57 := blk_all5 BK455.out; have hcz58 := blk_all5 BK439.out))
       go_meet
       case rel => exact ⟨_, H', ⟨by first | omega | exact Nat.le_refl _⟩, ⟨bk_now⟩, ⟨bk_now⟩, ⟨bk_now⟩, ⟨bk_now⟩, ⟨b_now⟩⟩
     ·rw [if_neg c23] at H
      have c23b0 : (t462 == 0) = false := beq_eq_false_iff_ne.mpr c23
      have c23b1 : (t462 != 0) = true := bne_iff_ne.mpr c23
      obtain rfl := Option.some.inj H
      exact absurd HRT.out (by simp)
   ·rw [if_neg c21] at H
    have c21b0 : (t454 == 0) = false := beq_eq_false_iff_ne.mpr c21
    have c21b1 : (t454 != 0) = true := bne_iff_ne.mpr c21
    obtain rfl := Option.some.inj H
    exact absurd HRT.out (by simp)
  ·rw [if_neg c18] at H
   have c18b0 : (t447 == 0) = false := beq_eq_false_iff_ne.mpr c18
   have c18b1 : (t447 != 0) = true := bne_iff_ne.mpr c18
   (first | rw [c18b0] | (simp only [i64_w, i32_w]; rw [c18b0]) | skip)
   have H' := Aside0.mk H
   clear H
   go_wp2
   go_meet
   case rel => exact ⟨_, H', ⟨by first | omega | exact Nat.le_refl _⟩, ⟨bk_now⟩, ⟨bk_now⟩, ⟨bk_now⟩, ⟨bk_now⟩, ⟨b_now⟩⟩
 case rest =>
  clear HC5
  try clear c1
  try clear c2
  try clear p2
  try clear c3
  try clear c4
  try clear c5
  try clear c8
  try clear c9
  try clear c10
  try clear c12
  try clear c14
  try clear c15
  try clear c16
  try clear c18
  try clear c18b0
  try clear c18b1
  try clear c21
  try clear c21b0
  try clear c21b1
  try clear c22
  try clear c22b0
  try clear c23
  try clear c23b0
  try clear c23b1
  try clear c24
  try clear c24b0
  try clear c25
  try clear c26
  try clear c27
  try clear c29
  try clear c30
  try clear c34
  try clear c35
  try clear c36
  try clear c37
  try clear c41
  try clear c42
  try clear c43
  try clear c44
  try clear c45
  try clear c50
  try clear c51
  try clear c52
  try clear c53
  try clear c54
  try clear c55
  try clear hcz11
  try clear hcz17
  try clear hcz28
  try clear hcz31
  try clear hcz38
  try clear hcz39
  try clear hcz46
  try clear hcz47
  try clear hcz56
  try clear hcz57
  try clear hcz58
  obtain ⟨kq, HA, HJ4, BK439, BK440, BK441, BK448, HB⟩ := hcut
  cases kq with
  | zero => exact absurd HA.out (by simp [stockadelaw02_InsnOnce.j0])
  | succ kj4 =>
   have H := HA.out
   clear HA
   simp only [stockadelaw02_InsnOnce.j0] at H
   replace H := Option.bind_eq_some_iff.mp H; obtain ⟨⟨t464, t465, t466, t467, t468, t469⟩, A590, H⟩ := H; try dsimp only at H
   have A59 := Aside0.mk A590
   clear A590
   by_cases c60 : t469 = 0
   ·rw [if_pos c60] at H
    have c60b0 : (t469 == 0) = true := beq_iff_eq.mpr c60
    have c60b1 : (t469 != 0) = false := bne_eq_false_iff_eq.mpr c60
    clear c60
    replace H := Option.bind_eq_some_iff.mp H; obtain ⟨⟨t471, t472, t473, t474, t475, t476⟩, A610, H⟩ := H; try dsimp only at H
    have A61 := Aside0.mk A610
    clear A610
    by_cases c62 : t476 = 0
    ·rw [if_pos c62] at H
     have c62b0 : (t476 == 0) = true := beq_iff_eq.mpr c62
     have c62b1 : (t476 != 0) = false := bne_eq_false_iff_eq.mpr c62
     clear c62
     by_cases c63 : (t471 == a1_0 && (t472 == a1_1 && (t473 == a1_2 && (t474 == a1_3 && (t475 == a1_4))))) = true
     ·rw [if_pos c63] at H
      have c63b0 : (t471 == a1_0 && (t472 == a1_1 && (t473 == a1_2 && (t474 == a1_3 && (t475 == a1_4))))) = true := c63
      (try (have c63b1 : decide (t471 = a1_0 && (t472 == a1_1 && (t473 == a1_2 && (t474 == a1_3 && (t475 == a1_4))))) = true := by simpa using c63))
      (try (have c63b2 : (t471 == a1_0 && (t472 == a1_1 && (t473 == a1_2 && (t474 == a1_3 && (t475 == a1_4))))) = true := by simpa using c63))
      clear c63
      by_cases c64 : t465 = a2_1
      ·rw [if_pos c64] at H
       have c64b0 : (t465 == a2_1) = true := beq_iff_eq.mpr c64
       have c64b1 : (t465 != a2_1) = false := bne_eq_false_iff_eq.mpr c64
       clear c64
       by_cases c65 : t467 = a2_3
       ·rw [if_pos c65] at H
        have c65b0 : (t467 == a2_3) = true := beq_iff_eq.mpr c65
        have c65b1 : (t467 != a2_3) = false := bne_eq_false_iff_eq.mpr c65
        clear c65
        replace H := Option.bind_eq_some_iff.mp H; obtain ⟨t478, A660, H⟩ := H; try dsimp only at H
        have A66 := Aside0.mk A660
        clear A660
        obtain rfl := Option.some.inj H
        have hnb67 := NB440_439.out
        have hnc67 := NB439_440.out
        have hnb68 := NB440_441.out
        have hnc68 := NB441_440.out
        have hnb69 := NB440_448.out
        have hnc69 := NB448_440.out
        have hcz70 := blk_all5 BK440.out
        have hnb71 := NB441_439.out
        have hnc71 := NB439_441.out
        have hnb72 := NB441_448.out
        have hnc72 := NB448_441.out
        have hcz73 := blk_all5 BK441.out
        go_wp2_with (first | ((with_reducible refine gate_callee (f := 21) rfl ?_); refine sh_call (some 58) Tryd.func21 #[.agg #[.int .i64 a1_0, .int .i64 a1_1, .int .i64 a1_2, .bool a1_3, .bool a1_4], .agg #[.int .u8 a2_0, .int .u8 a2_1, .int .u8 a2_2, .int .i16 a2_3, .int .i32 a2_4]] ?_; (with_reducible refine (insn_Make.calls kj4 a1_0 a1_1 a1_2 a1_3 a1_4 a2_0 a2_1 a2_2 a2_3 a2_4 t464 t465 t466 t467 t468 t469 _ ?side1 A59.out).mono ?_); (case side1 => repeat (first | exact (Kd.C_below HRG0.out HB.out) | (with_reducible refine Kd.C_alloc ?_ _) | (with_reducible refine Kd.C_drewN ?_ _) | (with_reducible refine Kd.C_drew ?_))); rintro e w74 ⟨rfl, hb⟩; refine ⟨_, rfl, ?_⟩; replace BK439 := sh_k BK439 hb; replace BK440 := sh_k BK440 hb; replace BK441 := sh_k BK441 hb; replace BK448 := sh_k BK448 hb; replace HB := sh_b (w := w) hb; (try clear hb); (try clear hb2); (try clear hk); (try clear hi)) | ((with_reducible refine gate_dst (N := 14) rfl ?_); refine sh_box 14 #[.int .u8 0, .int .u8 0, .int .u8 0, .int .i16 0, .int .i32 0] 24 ?_; intro gb470 hg w75 hbox hb; have GE470 := sh_z (w := w) hg; have NB439_470 := sh_n BK439 hg; have NB440_470 := sh_n BK440 hg; have NB441_470 := sh_n BK441 hg; have NB448_470 := sh_n BK448 hg; have NB470_439 := sh_s NB439_470; have NB470_440 := sh_s NB440_470; have NB470_441 := sh_s NB441_470; have NB470_448 := sh_s NB448_470; replace BK439 := sh_k BK439 hb; replace BK440 := sh_k BK440 hb; replace BK441 := sh_k BK441 hb; replace BK448 := sh_k BK448 hb; replace HB := sh_b (w := w) hb; have BK470 := Aside0.mk (hbox); clear hb hbox hg; have hnb76 := NB470_439.out; have hnc76 := NB439_470.out; have hnb77 := NB470_440.out; have hnc77 := NB440_470.out; have hnb78 := NB470_441.out; have hnc78 := NB441_470.out; have hnb79 := NB470_448.out; have hnc79 := NB448_470.out; have hcz80 := blk_all5 BK470.out) | ((with_reducible refine gate_callee (f := 12) rfl ?_); refine sh_call (some 83) Tryd.func12 #[.agg #[.int .u8 t464, .int .u8 t465, .int .u8 t466, .int .i16 t467, .int .i32 t468]] ?_; (with_reducible refine (insn_Of.calls kj4 t464 t465 t466 t467 t468 t471 t472 t473 t474 t475 t476 _ ?side1 A61.out).mono ?_); (case side1 => exact Kd.C_below HRG0.out b_now); rintro e w81 ⟨rfl, hb⟩; refine ⟨_, rfl, ?_⟩; replace BK439 := sh_kp (g := gb439) (t := 24) #[.int .u8 a0_0, .int .u8 a0_1, .int .u8 a0_2, .int .i16 a0_3, .int .i32 a0_4] hb; replace BK440 := sh_kp (g := gb440) (t := 26) #[.int .i64 a1_0, .int .i64 a1_1, .int .i64 a1_2, .bool a1_3, .bool a1_4] hb; replace BK441 := sh_kp (g := gb441) (t := 24) #[.int .u8 a2_0, .int .u8 a2_1, .int .u8 a2_2, .int .i16 a2_3, .int .i32 a2_4] hb; replace BK448 := sh_kp (g := gb448) (t := 26) #[.int .i64 t442, .int .i64 t443, .int .i64 t444, .bool t445, .bool t446] hb; replace BK470 := sh_kp (g := gb470) (t := 24) #[.int .u8 t464, .int .u8 t465, .int .u8 t466, .int .i16 t467, .int .i32 t468] hb; replace HB := sh_b (w := w) hb; (try clear hb); (try clear hb2); (try clear hk); (try clear hi)) | ((with_reducible refine gate_dst (N := 16) rfl ?_); refine sh_box 16 #[.int .i64 0, .int .i64 0, .int .i64 0, .bool false, .bool false] 26 ?_; intro gb477 hg w82 hbox hb; have GE477 := sh_z (w := w) hg; have NB439_477 := sh_n BK439 hg; have NB440_477 := sh_n BK440 hg; have NB441_477 := sh_n BK441 hg; have NB448_477 := sh_n BK448 hg; have NB470_477 := sh_n BK470 hg; have NB477_439 := sh_s NB439_477; have NB477_440 := sh_s NB440_477; have NB477_441 := sh_s NB441_477; have NB477_448 := sh_s NB448_477; have NB477_470 := sh_s NB470_477; replace BK439 := sh_k BK439 hb; replace BK440 := sh_k BK440 hb; replace BK441 := sh_k BK441 hb; replace BK448 := sh_k BK448 hb; replace BK470 := sh_k BK470 hb; replace HB := sh_b (w := w) hb; have BK477 := Aside0.mk (hbox); clear hb hbox hg; have hnb83 := NB477_439.out; have hnc83 := NB439_477.out; have hnb84 := NB477_440.out; have hnc84 := NB440_477.out; have hnb85 := NB477_441.out; have hnc85 := NB441_477.out; have hnb86 := NB477_448.out; have hnc86 := NB448_477.out; have hnb87 := NB477_470.out; have hnc87 := NB470_477.out; have hcz88 := blk_all5 BK477.out; have hcz89 := blk_all5 BK440.out; have hcz90 := blk_all5 BK470.out; have hcz91 := blk_all5 BK441.out) | (go_at_call 15; (with_reducible refine (stockadelaw02_wakes.calls kj4  t478 _ ?side1 (by first | rfl | exact HRT.out) A66.out).mono ?_); (case side1 => exact Kd.C_below HRG0.out b_now); rintro e w92 ⟨rfl, hb⟩; replace BK439 := sh_kp (g := gb439) (t := 24) #[.int .u8 a0_0, .int .u8 a0_1, .int .u8 a0_2, .int .i16 a0_3, .int .i32 a0_4] hb; replace BK440 := sh_kp (g := gb440) (t := 26) #[.int .i64 a1_0, .int .i64 a1_1, .int .i64 a1_2, .bool a1_3, .bool a1_4] hb; replace BK441 := sh_kp (g := gb441) (t := 24) #[.int .u8 a2_0, .int .u8 a2_1, .int .u8 a2_2, .int .i16 a2_3, .int .i32 a2_4] hb; replace BK448 := sh_kp (g := gb448) (t := 26) #[.int .i64 t442, .int .i64 t443, .int .i64 t444, .bool t445, .bool t446] hb; replace BK470 := sh_kp (g := gb470) (t := 24) #[.int .u8 t464, .int .u8 t465, .int .u8 t466, .int .i16 t467, .int .i32 t468] hb; replace BK477 := sh_kp (g := gb477) (t := 26) #[.int .i64 t471, .int .i64 t472, .int .i64 t473, .bool t474, .bool t475] hb; replace HB := sh_b (w := w) hb; (try clear hb); (try clear hb2); (try clear hk); (try clear hi)))
        go_ret
        exact ⟨ret_now, b_now⟩
       ·rw [if_neg c65] at H
        have c65b0 : (t467 == a2_3) = false := beq_eq_false_iff_ne.mpr c65
        have c65b1 : (t467 != a2_3) = true := bne_iff_ne.mpr c65
        obtain rfl := Option.some.inj H
        exact absurd HRT.out (by simp)
      ·rw [if_neg c64] at H
       have c64b0 : (t465 == a2_1) = false := beq_eq_false_iff_ne.mpr c64
       have c64b1 : (t465 != a2_1) = true := bne_iff_ne.mpr c64
       obtain rfl := Option.some.inj H
       exact absurd HRT.out (by simp)
     ·rw [if_neg c63] at H
      have c63b0 : (t471 == a1_0 && (t472 == a1_1 && (t473 == a1_2 && (t474 == a1_3 && (t475 == a1_4))))) = false := by simpa using c63
      (try (have c63b1 : decide (t471 = a1_0 && (t472 == a1_1 && (t473 == a1_2 && (t474 == a1_3 && (t475 == a1_4))))) = false := by simpa using c63))
      (try (have c63b2 : (t471 == a1_0 && (t472 == a1_1 && (t473 == a1_2 && (t474 == a1_3 && (t475 == a1_4))))) = false := by simpa using c63))
      (try (have c63b3 : ¬ (t471 = a1_0 && (t472 == a1_1 && (t473 == a1_2 && (t474 == a1_3 && (t475 == a1_4))))) := by simpa using c63))
      clear c63
      obtain rfl := Option.some.inj H
      exact absurd HRT.out (by simp)
    ·rw [if_neg c62] at H
     have c62b0 : (t476 == 0) = false := beq_eq_false_iff_ne.mpr c62
     have c62b1 : (t476 != 0) = true := bne_iff_ne.mpr c62
     obtain rfl := Option.some.inj H
     exact absurd HRT.out (by simp)
   ·rw [if_neg c60] at H
    have c60b0 : (t469 == 0) = false := beq_eq_false_iff_ne.mpr c60
    have c60b1 : (t469 != 0) = true := bne_iff_ne.mpr c60
    by_cases c93 : (t464 == 0 && (t465 == 0 && (t466 == 0 && (t467 == 0 && (t468 == 0))))) = true
    ·rw [if_pos c93] at H
     have c93b0 : (t464 == 0 && (t465 == 0 && (t466 == 0 && (t467 == 0 && (t468 == 0))))) = true := c93
     (try (have c93b1 : decide (t464 = 0 && (t465 == 0 && (t466 == 0 && (t467 == 0 && (t468 == 0))))) = true := by simpa using c93))
     (try (have c93b2 : (t464 == 0 && (t465 == 0 && (t466 == 0 && (t467 == 0 && (t468 == 0))))) = true := by simpa using c93))
     clear c93
     by_cases c94 : t469 = 1
     ·rw [if_pos c94] at H
      have c94b0 : (t469 == 1) = true := beq_iff_eq.mpr c94
      have c94b1 : (t469 != 1) = false := bne_eq_false_iff_eq.mpr c94
      clear c94
      replace H := Option.bind_eq_some_iff.mp H; obtain ⟨t479, A950, H⟩ := H; try dsimp only at H
      have A95 := Aside0.mk A950
      clear A950
      obtain rfl := Option.some.inj H
      have hnb96 := NB440_439.out
      have hnc96 := NB439_440.out
      have hnb97 := NB440_441.out
      have hnc97 := NB441_440.out
      have hnb98 := NB440_448.out
      have hnc98 := NB448_440.out
      have hcz99 := blk_all5 BK440.out
      have hnb100 := NB441_439.out
      have hnc100 := NB439_441.out
      have hnb101 := NB441_448.out
      have hnc101 := NB448_441.out
      have hcz102 := blk_all5 BK441.out
      go_wp2_with (first | ((with_reducible refine gate_callee (f := 21) rfl ?_); refine sh_call (some 58) Tryd.func21 #[.agg #[.int .i64 a1_0, .int .i64 a1_1, .int .i64 a1_2, .bool a1_3, .bool a1_4], .agg #[.int .u8 a2_0, .int .u8 a2_1, .int .u8 a2_2, .int .i16 a2_3, .int .i32 a2_4]] ?_; (with_reducible refine (insn_Make.calls kj4 a1_0 a1_1 a1_2 a1_3 a1_4 a2_0 a2_1 a2_2 a2_3 a2_4 t464 t465 t466 t467 t468 t469 _ ?side1 A59.out).mono ?_); (case side1 => repeat (first | exact (Kd.C_below HRG0.out HB.out) | (with_reducible refine Kd.C_alloc ?_ _) | (with_reducible refine Kd.C_drewN ?_ _) | (with_reducible refine Kd.C_drew ?_))); rintro e w103 ⟨rfl, hb⟩; refine ⟨_, rfl, ?_⟩; replace BK439 := sh_k BK439 hb; replace BK440 := sh_k BK440 hb; replace BK441 := sh_k BK441 hb; replace BK448 := sh_k BK448 hb; replace HB := sh_b (w := w) hb; (try clear hb); (try clear hb2); (try clear hk); (try clear hi)) | ((with_reducible refine gate_dst (N := 14) rfl ?_); refine sh_box 14 #[.int .u8 0, .int .u8 0, .int .u8 0, .int .i16 0, .int .i32 0] 24 ?_; intro gb470 hg w104 hbox hb; have GE470 := sh_z (w := w) hg; have NB439_470 := sh_n BK439 hg; have NB440_470 := sh_n BK440 hg; have NB441_470 := sh_n BK441 hg; have NB448_470 := sh_n BK448 hg; have NB470_439 := sh_s NB439_470; have NB470_440 := sh_s NB440_470; have NB470_441 := sh_s NB441_470; have NB470_448 := sh_s NB448_470; replace BK439 := sh_k BK439 hb; replace BK440 := sh_k BK440 hb; replace BK441 := sh_k BK441 hb; replace BK448 := sh_k BK448 hb; replace HB := sh_b (w := w) hb; have BK470 := Aside0.mk (hbox); clear hb hbox hg; have hnb105 := NB470_439.out; have hnc105 := NB439_470.out; have hnb106 := NB470_440.out; have hnc106 := NB440_470.out; have hnb107 := NB470_441.out; have hnc107 := NB441_470.out; have hnb108 := NB470_448.out; have hnc108 := NB448_470.out; have hcz109 := blk_all5 BK470.out) | (go_at_call 15; (with_reducible refine (stockadelaw02_wakes.calls kj4  t479 _ ?side1 (by first | rfl | exact HRT.out) A95.out).mono ?_); (case side1 => exact Kd.C_below HRG0.out b_now); rintro e w110 ⟨rfl, hb⟩; replace BK439 := sh_kp (g := gb439) (t := 24) #[.int .u8 a0_0, .int .u8 a0_1, .int .u8 a0_2, .int .i16 a0_3, .int .i32 a0_4] hb; replace BK440 := sh_kp (g := gb440) (t := 26) #[.int .i64 a1_0, .int .i64 a1_1, .int .i64 a1_2, .bool a1_3, .bool a1_4] hb; replace BK441 := sh_kp (g := gb441) (t := 24) #[.int .u8 a2_0, .int .u8 a2_1, .int .u8 a2_2, .int .i16 a2_3, .int .i32 a2_4] hb; replace BK448 := sh_kp (g := gb448) (t := 26) #[.int .i64 t442, .int .i64 t443, .int .i64 t444, .bool t445, .bool t446] hb; replace BK470 := sh_kp (g := gb470) (t := 24) #[.int .u8 t464, .int .u8 t465, .int .u8 t466, .int .i16 t467, .int .i32 t468] hb; replace HB := sh_b (w := w) hb; (try clear hb); (try clear hb2); (try clear hk); (try clear hi)))
      go_ret
      exact ⟨ret_now, b_now⟩
     ·rw [if_neg c94] at H
      have c94b0 : (t469 == 1) = false := beq_eq_false_iff_ne.mpr c94
      have c94b1 : (t469 != 1) = true := bne_iff_ne.mpr c94
      by_cases c111 : t469 = 21
      ·rw [if_pos c111] at H
       have c111b0 : (t469 == 21) = true := beq_iff_eq.mpr c111
       have c111b1 : (t469 != 21) = false := bne_eq_false_iff_eq.mpr c111
       clear c111
       replace H := Option.bind_eq_some_iff.mp H; obtain ⟨t480, A1120, H⟩ := H; try dsimp only at H
       have A112 := Aside0.mk A1120
       clear A1120
       obtain rfl := Option.some.inj H
       have hnb113 := NB440_439.out
       have hnc113 := NB439_440.out
       have hnb114 := NB440_441.out
       have hnc114 := NB441_440.out
       have hnb115 := NB440_448.out
       have hnc115 := NB448_440.out
       have hcz116 := blk_all5 BK440.out
       have hnb117 := NB441_439.out
       have hnc117 := NB439_441.out
       have hnb118 := NB441_448.out
       have hnc118 := NB448_441.out
       have hcz119 := blk_all5 BK441.out
       go_wp2_with (first | ((with_reducible refine gate_callee (f := 21) rfl ?_); refine sh_call (some 58) Tryd.func21 #[.agg #[.int .i64 a1_0, .int .i64 a1_1, .int .i64 a1_2, .bool a1_3, .bool a1_4], .agg #[.int .u8 a2_0, .int .u8 a2_1, .int .u8 a2_2, .int .i16 a2_3, .int .i32 a2_4]] ?_; (with_reducible refine (insn_Make.calls kj4 a1_0 a1_1 a1_2 a1_3 a1_4 a2_0 a2_1 a2_2 a2_3 a2_4 t464 t465 t466 t467 t468 t469 _ ?side1 A59.out).mono ?_); (case side1 => repeat (first | exact (Kd.C_below HRG0.out HB.out) | (with_reducible refine Kd.C_alloc ?_ _) | (with_reducible refine Kd.C_drewN ?_ _) | (with_reducible refine Kd.C_drew ?_))); rintro e w120 ⟨rfl, hb⟩; refine ⟨_, rfl, ?_⟩; replace BK439 := sh_k BK439 hb; replace BK440 := sh_k BK440 hb; replace BK441 := sh_k BK441 hb; replace BK448 := sh_k BK448 hb; replace HB := sh_b (w := w) hb; (try clear hb); (try clear hb2); (try clear hk); (try clear hi)) | ((with_reducible refine gate_dst (N := 14) rfl ?_); refine sh_box 14 #[.int .u8 0, .int .u8 0, .int .u8 0, .int .i16 0, .int .i32 0] 24 ?_; intro gb470 hg w121 hbox hb; have GE470 := sh_z (w := w) hg; have NB439_470 := sh_n BK439 hg; have NB440_470 := sh_n BK440 hg; have NB441_470 := sh_n BK441 hg; have NB448_470 := sh_n BK448 hg; have NB470_439 := sh_s NB439_470; have NB470_440 := sh_s NB440_470; have NB470_441 := sh_s NB441_470; have NB470_448 := sh_s NB448_470; replace BK439 := sh_k BK439 hb; replace BK440 := sh_k BK440 hb; replace BK441 := sh_k BK441 hb; replace BK448 := sh_k BK448 hb; replace HB := sh_b (w := w) hb; have BK470 := Aside0.mk (hbox); clear hb hbox hg; have hnb122 := NB470_439.out; have hnc122 := NB439_470.out; have hnb123 := NB470_440.out; have hnc123 := NB440_470.out; have hnb124 := NB470_441.out; have hnc124 := NB441_470.out; have hnb125 := NB470_448.out; have hnc125 := NB448_470.out; have hcz126 := blk_all5 BK470.out) | (go_at_call 15; (with_reducible refine (stockadelaw02_wakes.calls kj4  t480 _ ?side1 (by first | rfl | exact HRT.out) A112.out).mono ?_); (case side1 => exact Kd.C_below HRG0.out b_now); rintro e w127 ⟨rfl, hb⟩; replace BK439 := sh_kp (g := gb439) (t := 24) #[.int .u8 a0_0, .int .u8 a0_1, .int .u8 a0_2, .int .i16 a0_3, .int .i32 a0_4] hb; replace BK440 := sh_kp (g := gb440) (t := 26) #[.int .i64 a1_0, .int .i64 a1_1, .int .i64 a1_2, .bool a1_3, .bool a1_4] hb; replace BK441 := sh_kp (g := gb441) (t := 24) #[.int .u8 a2_0, .int .u8 a2_1, .int .u8 a2_2, .int .i16 a2_3, .int .i32 a2_4] hb; replace BK448 := sh_kp (g := gb448) (t := 26) #[.int .i64 t442, .int .i64 t443, .int .i64 t444, .bool t445, .bool t446] hb; replace BK470 := sh_kp (g := gb470) (t := 24) #[.int .u8 t464, .int .u8 t465, .int .u8 t466, .int .i16 t467, .int .i32 t468] hb; replace HB := sh_b (w := w) hb; (try clear hb); (try clear hb2); (try clear hk); (try clear hi)))
       go_ret
       exact ⟨ret_now, b_now⟩
      ·rw [if_neg c111] at H
       have c111b0 : (t469 == 21) = false := beq_eq_false_iff_ne.mpr c111
       have c111b1 : (t469 != 21) = true := bne_iff_ne.mpr c111
       by_cases c128 : t469 = 22
       ·rw [if_pos c128] at H
        have c128b0 : (t469 == 22) = true := beq_iff_eq.mpr c128
        have c128b1 : (t469 != 22) = false := bne_eq_false_iff_eq.mpr c128
        clear c128
        replace H := Option.bind_eq_some_iff.mp H; obtain ⟨t481, A1290, H⟩ := H; try dsimp only at H
        have A129 := Aside0.mk A1290
        clear A1290
        obtain rfl := Option.some.inj H
        have hnb130 := NB440_439.out
        have hnc130 := NB439_440.out
        have hnb131 := NB440_441.out
        have hnc131 := NB441_440.out
        have hnb132 := NB440_448.out
        have hnc132 := NB448_440.out
        have hcz133 := blk_all5 BK440.out
        have hnb134 := NB441_439.out
        have hnc134 := NB439_441.out
        have hnb135 := NB441_448.out
        have hnc135 := NB448_441.out
        have hcz136 := blk_all5 BK441.out
        go_wp2_with (first | ((with_reducible refine gate_callee (f := 21) rfl ?_); refine sh_call (some 58) Tryd.func21 #[.agg #[.int .i64 a1_0, .int .i64 a1_1, .int .i64 a1_2, .bool a1_3, .bool a1_4], .agg #[.int .u8 a2_0, .int .u8 a2_1, .int .u8 a2_2, .int .i16 a2_3, .int .i32 a2_4]] ?_; (with_reducible refine (insn_Make.calls kj4 a1_0 a1_1 a1_2 a1_3 a1_4 a2_0 a2_1 a2_2 a2_3 a2_4 t464 t465 t466 t467 t468 t469 _ ?side1 A59.out).mono ?_); (case side1 => repeat (first | exact (Kd.C_below HRG0.out HB.out) | (with_reducible refine Kd.C_alloc ?_ _) | (with_reducible refine Kd.C_drewN ?_ _) | (with_reducible refine Kd.C_drew ?_))); rintro e w137 ⟨rfl, hb⟩; refine ⟨_, rfl, ?_⟩; replace BK439 := sh_k BK439 hb; replace BK440 := sh_k BK440 hb; replace BK441 := sh_k BK441 hb; replace BK448 := sh_k BK448 hb; replace HB := sh_b (w := w) hb; (try clear hb); (try clear hb2); (try clear hk); (try clear hi)) | ((with_reducible refine gate_dst (N := 14) rfl ?_); refine sh_box 14 #[.int .u8 0, .int .u8 0, .int .u8 0, .int .i16 0, .int .i32 0] 24 ?_; intro gb470 hg w138 hbox hb; have GE470 := sh_z (w := w) hg; have NB439_470 := sh_n BK439 hg; have NB440_470 := sh_n BK440 hg; have NB441_470 := sh_n BK441 hg; have NB448_470 := sh_n BK448 hg; have NB470_439 := sh_s NB439_470; have NB470_440 := sh_s NB440_470; have NB470_441 := sh_s NB441_470; have NB470_448 := sh_s NB448_470; replace BK439 := sh_k BK439 hb; replace BK440 := sh_k BK440 hb; replace BK441 := sh_k BK441 hb; replace BK448 := sh_k BK448 hb; replace HB := sh_b (w := w) hb; have BK470 := Aside0.mk (hbox); clear hb hbox hg; have hnb139 := NB470_439.out; have hnc139 := NB439_470.out; have hnb140 := NB470_440.out; have hnc140 := NB440_470.out; have hnb141 := NB470_441.out; have hnc141 := NB441_470.out; have hnb142 := NB470_448.out; have hnc142 := NB448_470.out; have hcz143 := blk_all5 BK470.out) | (go_at_call 15; (with_reducible refine (stockadelaw02_wakes.calls kj4  t481 _ ?side1 (by first | rfl | exact HRT.out) A129.out).mono ?_); (case side1 => exact Kd.C_below HRG0.out b_now); rintro e w144 ⟨rfl, hb⟩; replace BK439 := sh_kp (g := gb439) (t := 24) #[.int .u8 a0_0, .int .u8 a0_1, .int .u8 a0_2, .int .i16 a0_3, .int .i32 a0_4] hb; replace BK440 := sh_kp (g := gb440) (t := 26) #[.int .i64 a1_0, .int .i64 a1_1, .int .i64 a1_2, .bool a1_3, .bool a1_4] hb; replace BK441 := sh_kp (g := gb441) (t := 24) #[.int .u8 a2_0, .int .u8 a2_1, .int .u8 a2_2, .int .i16 a2_3, .int .i32 a2_4] hb; replace BK448 := sh_kp (g := gb448) (t := 26) #[.int .i64 t442, .int .i64 t443, .int .i64 t444, .bool t445, .bool t446] hb; replace BK470 := sh_kp (g := gb470) (t := 24) #[.int .u8 t464, .int .u8 t465, .int .u8 t466, .int .i16 t467, .int .i32 t468] hb; replace HB := sh_b (w := w) hb; (try clear hb); (try clear hb2); (try clear hk); (try clear hi)))
        go_ret
        exact ⟨ret_now, b_now⟩
       ·rw [if_neg c128] at H
        have c128b0 : (t469 == 22) = false := beq_eq_false_iff_ne.mpr c128
        have c128b1 : (t469 != 22) = true := bne_iff_ne.mpr c128
        obtain rfl := Option.some.inj H
        exact absurd HRT.out (by simp)
    ·rw [if_neg c93] at H
     have c93b0 : (t464 == 0 && (t465 == 0 && (t466 == 0 && (t467 == 0 && (t468 == 0))))) = false := by simpa using c93
     (try (have c93b1 : decide (t464 = 0 && (t465 == 0 && (t466 == 0 && (t467 == 0 && (t468 == 0))))) = false := by simpa using c93))
     (try (have c93b2 : (t464 == 0 && (t465 == 0 && (t466 == 0 && (t467 == 0 && (t468 == 0))))) = false := by simpa using c93))
     (try (have c93b3 : ¬ (t464 = 0 && (t465 == 0 && (t466 == 0 && (t467 == 0 && (t468 == 0))))) := by simpa using c93))
     clear c93
     obtain rfl := Option.some.inj H
     exact absurd HRT.out (by simp)

end Go.Proofs.YtkojjjdeacdabaaDoor.P
