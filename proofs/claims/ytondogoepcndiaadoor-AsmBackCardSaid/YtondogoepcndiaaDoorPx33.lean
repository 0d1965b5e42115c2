/- Made by this session's driver over the kit's printer: for each Go function a Lean function with the same answers, and a proof that the Go call comes to these answers; no conditions but the ones each theorem names. -/
import Derived.Test.YtondogoepcndiaaDoorPx0
import Derived.Test.YtondogoepcndiaaDoorPx10
import Derived.Test.YtondogoepcndiaaDoorPx21
namespace Go.Proofs.YtondogoepcndiaaDoor.P
open Go.RowKit Go.Proofs.YtondogoepcndiaaDoorW.PrintWords Go.Proofs.YtondogoepcndiaaDoorW.PrintLast Go.Proofs.YtondogoepcndiaaDoorW.PrintMore
attribute [local go_sem] max2_int min2_int max_two min_two max_three min_three max_four min_four   -- for this text's walks alone
set_option linter.unusedVariables false
set_option linter.unusedSimpArgs false

/-! ### stockadelaw03_AsmBack: function 5 -/
mutual
def stockadelaw03_AsmBack.j0 : Nat → List (S37) → List (S37) → ByteArray → Bool → Option (Bool)
 | 0, _, _, _, _ => none
 | k + 1, x0, x1, x2, x29 => if x29 = true then ((stockadelaw03_wakes.f k).bind fun t608 => (some t608)) else ((asm_Print.f k x0).bind fun bt609 => (if bt609.2 = 0 then ((asm_Parse.f k bt609.1).bind fun bt611 => (if bt611.2.2 = 0 then (if bt611.2.1 = 0 then ((stockadelaw03_same.f k bt611.1 x0).bind fun t616 => (stockadelaw03_AsmBack.j1 k x0 x1 x2 bt609.1 (!t616))) else (stockadelaw03_AsmBack.j1 k x0 x1 x2 bt609.1 true)) else (stockadelaw03_AsmBack.j1 k x0 x1 x2 bt609.1 true))) else (if bt609.1.toList = ([] : List UInt8) then (stockadelaw03_AsmBack.j2 k x2) else (some false))))
def stockadelaw03_AsmBack.j2 : Nat → ByteArray → Option (Bool)
 | 0, _ => none
 | k + 1, x2 => (asm_Parse.f k x2).bind fun bt620 => (if bt620.2.2 = 0 then ((asm_Print.f k bt620.1).bind fun bt625 => (if bt620.2.1 = 0 then (if bt625.2 = 0 then (if bt625.1.toList = x2.toList then ((stockadelaw03_wakes.f k).bind fun t627 => (some t627)) else (some false)) else (some false)) else (some false))) else (if (bt620.1.length : Int) = 0 then (if bt620.2.1 > 0 then (if bt620.2.2 = 5 then ((stockadelaw03_wakes.f k).bind fun t628 => (some t628)) else (if bt620.2.2 = 3 then ((stockadelaw03_wakes.f k).bind fun t629 => (some t629)) else (some false))) else (some false)) else (some false)))
def stockadelaw03_AsmBack.j1 : Nat → List (S37) → List (S37) → ByteArray → ByteArray → Bool → Option (Bool)
 | 0, _, _, _, _, _ => none
 | k + 1, x0, x1, x2, x7, x55 => if x55 = true then (some false) else ((asm_Print.f k x1).bind fun bt617 => (if bt617.2 = 0 then ((stockadelaw03_same.f k x0 x1).bind fun t619 => (if ((x7.toList == bt617.1.toList) != t619) = true then (some false) else (stockadelaw03_AsmBack.j2 k x2))) else (stockadelaw03_AsmBack.j2 k x2)))
end
def stockadelaw03_AsmBack.f (k : Nat) (l0 : List (S37)) (l1 : List (S37)) (a2 : ByteArray) : Option (Bool) := if (l0.length : Int) > 600 then (stockadelaw03_AsmBack.j0 k l0 l1 a2 true) else (if (l1.length : Int) > 600 then (stockadelaw03_AsmBack.j0 k l0 l1 a2 true) else (stockadelaw03_AsmBack.j0 k l0 l1 a2 (decide ((a2.size : Int) > 12000))))
theorem stockadelaw03_AsmBack.mono_l : ∀ k, (∀ y0 y1 y2 y3, LeO (stockadelaw03_AsmBack.j0 k y0 y1 y2 y3) (stockadelaw03_AsmBack.j0 (k + 1) y0 y1 y2 y3)) ∧ (∀ y0, LeO (stockadelaw03_AsmBack.j2 k y0) (stockadelaw03_AsmBack.j2 (k + 1) y0)) ∧ (∀ y0 y1 y2 y3 y4, LeO (stockadelaw03_AsmBack.j1 k y0 y1 y2 y3 y4) (stockadelaw03_AsmBack.j1 (k + 1) y0 y1 y2 y3 y4))
 | 0 => ⟨fun _ _ _ _ r h => by simp [stockadelaw03_AsmBack.j0] at h, fun _ r h => by simp [stockadelaw03_AsmBack.j2] at h, fun _ _ _ _ _ r h => by simp [stockadelaw03_AsmBack.j1] at h⟩
 | k + 1 => by
  obtain ⟨ih0, ih1, ih2⟩ := stockadelaw03_AsmBack.mono_l k
  refine ⟨?_, ?_, ?_⟩
  ·intro y0 y1 y2 y3
   unfold stockadelaw03_AsmBack.j0
   repeat' first
   | (with_reducible exact ih0 _ _ _ _)
   | (with_reducible exact ih1 _)
   | (with_reducible exact ih2 _ _ _ _ _)
   | (with_reducible exact asm_Parse.mono _ _)
   | (with_reducible exact asm_Print.mono _ _)
   | (with_reducible exact stockadelaw03_same.mono _ _ _)
   | (with_reducible exact stockadelaw03_wakes.mono _)
   | (with_reducible exact LeO.refl _)
   | (with_reducible exact LeO.none _)
   | (with_reducible refine LeO.ite ?_ ?_)
   | (with_reducible refine LeO.bind ?_ (fun _ => ?_))
   | refine LeO.ite ?_ ?_
   | refine LeO.bind ?_ (fun _ => ?_)
  ·intro y0
   unfold stockadelaw03_AsmBack.j2
   repeat' first
   | (with_reducible exact ih0 _ _ _ _)
   | (with_reducible exact ih1 _)
   | (with_reducible exact ih2 _ _ _ _ _)
   | (with_reducible exact asm_Parse.mono _ _)
   | (with_reducible exact asm_Print.mono _ _)
   | (with_reducible exact stockadelaw03_same.mono _ _ _)
   | (with_reducible exact stockadelaw03_wakes.mono _)
   | (with_reducible exact LeO.refl _)
   | (with_reducible exact LeO.none _)
   | (with_reducible refine LeO.ite ?_ ?_)
   | (with_reducible refine LeO.bind ?_ (fun _ => ?_))
   | refine LeO.ite ?_ ?_
   | refine LeO.bind ?_ (fun _ => ?_)
  ·intro y0 y1 y2 y3 y4
   unfold stockadelaw03_AsmBack.j1
   repeat' first
   | (with_reducible exact ih0 _ _ _ _)
   | (with_reducible exact ih1 _)
   | (with_reducible exact ih2 _ _ _ _ _)
   | (with_reducible exact asm_Parse.mono _ _)
   | (with_reducible exact asm_Print.mono _ _)
   | (with_reducible exact stockadelaw03_same.mono _ _ _)
   | (with_reducible exact stockadelaw03_wakes.mono _)
   | (with_reducible exact LeO.refl _)
   | (with_reducible exact LeO.none _)
   | (with_reducible refine LeO.ite ?_ ?_)
   | (with_reducible refine LeO.bind ?_ (fun _ => ?_))
   | refine LeO.ite ?_ ?_
   | refine LeO.bind ?_ (fun _ => ?_)
theorem stockadelaw03_AsmBack.mono : ∀ a0 a1 a2 k, LeO (stockadelaw03_AsmBack.f k a0 a1 a2) (stockadelaw03_AsmBack.f (k + 1) a0 a1 a2) := by
 intro a0 a1 a2 k
 obtain ⟨ih0, ih1, ih2⟩ := stockadelaw03_AsmBack.mono_l k
 unfold stockadelaw03_AsmBack.f
 repeat' first
   | (with_reducible exact ih0 _ _ _ _)
   | (with_reducible exact ih1 _)
   | (with_reducible exact ih2 _ _ _ _ _)
   | (with_reducible exact asm_Parse.mono _ _)
   | (with_reducible exact asm_Print.mono _ _)
   | (with_reducible exact stockadelaw03_same.mono _ _ _)
   | (with_reducible exact stockadelaw03_wakes.mono _)
   | (with_reducible exact LeO.refl _)
   | (with_reducible exact LeO.none _)
   | (with_reducible refine LeO.ite ?_ ?_)
   | (with_reducible refine LeO.bind ?_ (fun _ => ?_))
   | refine LeO.ite ?_ ?_
   | refine LeO.bind ?_ (fun _ => ?_)
set_option maxHeartbeats 8000000 in
set_option maxRecDepth 100000 in
theorem stockadelaw03_AsmBack.calls (k : Nat) (A0 : Option Addr) (c0 : Nat) (l0 : List (S37)) (A1 : Option Addr) (c1 : Nat) (l1 : List (S37)) (a2 : ByteArray) (r : Bool) (w : World) (hr0 : Kd.C k37 w A0 l0.length l0) (hc0 : l0.length ≤ c0) (hr1 : Kd.C k37 w A1 l1.length l1) (hc1 : l1.length ≤ c1) (hrG0 : Kd.C Kd.string w (some ⟨0, 0, none⟩) gl0.length gl0) (hrG1 : Kd.C Kd.string w (some ⟨1, 0, none⟩) gl1.length gl1) (hrG2 : Kd.C (Kd.int .i64) w (some ⟨2, 0, none⟩) gl2.length gl2) (hrG3 : Kd.C kGF w (some ⟨3, 0, none⟩) gl3.length gl3) (hr_ : r = true) (h : stockadelaw03_AsmBack.f k l0 l1 a2 = some r) :
  Calls Tryd.prog 5 #[.slice A0 l0.length c0, .slice A1 l1.length c1, .string a2] w fun e w' => e = .returned (.bool r) ∧ Below w.heap.size w w' := by
 have HR0 := Aside0.mk hr0
 have HC0 := Aside0.mk hc0
 clear hr0 hc0
 have HR1 := Aside0.mk hr1
 have HC1 := Aside0.mk hc1
 clear hr1 hc1
 have HRG0 := Aside0.mk hrG0
 clear hrG0
 have HRG1 := Aside0.mk hrG1
 clear hrG1
 have HRG2 := Aside0.mk hrG2
 clear hrG2
 have HRG3 := Aside0.mk hrG3
 clear hrG3
 have HRT := Aside0.mk hr_
 clear hr_
 have HB := Aside0.mk (Below.refl w.heap.size w)
 have H : (if (l0.length : Int) > 600 then (stockadelaw03_AsmBack.j0 k l0 l1 a2 true) else (if (l1.length : Int) > 600 then (stockadelaw03_AsmBack.j0 k l0 l1 a2 true) else (stockadelaw03_AsmBack.j0 k l0 l1 a2 (decide ((a2.size : Int) > 12000))))) = some r := h
 clear h
 have HC4 := Aside0.mk H
 clear H
 go_enter Tryd.func5, Tryd.ntmps5
 go_upto_region 1 with (fail)
 go_cut [29] (fun v29 wc => ∃ (kq : Nat) (x29_3 : Bool), v29 = .bool x29_3 ∧ Aside0 (stockadelaw03_AsmBack.j0 kq l0 l1 a2 x29_3 = some r) ∧ Aside0 (kq ≤ k) ∧ Aside0 (Below w.heap.size w wc))
 case first =>
  have H := HC4.out
  clear HC4
  by_cases c5 : (l0.length : Int) > 600
  ·rw [if_pos c5] at H
   have c5b0 : decide (600 < (l0.length : Int)) = true := decide_eq_true c5
   have c5b1 : decide (600 < l0.length) = true := decide_eq_true (by omega)
   clear c5
   (first | rw [c5b0] | (simp only [i64_w, i32_w]; rw [c5b0]) | skip)
   have H' := Aside0.mk H
   clear H
   go_wp2
   go_meet
   case rel => exact ⟨_, (true), eq_now, H', ⟨by first | omega | exact Nat.le_refl _⟩, ⟨b_now⟩⟩
  ·rw [if_neg c5] at H
   have c5b0 : decide (600 < (l0.length : Int)) = false := decide_eq_false c5
   have c5b1 : decide (600 < l0.length) = false := decide_eq_false (by omega)
   clear c5
   (first | rw [c5b0] | (simp only [i64_w, i32_w]; rw [c5b0]) | skip)
   by_cases c6 : (l1.length : Int) > 600
   ·rw [if_pos c6] at H
    have c6b0 : decide (600 < (l1.length : Int)) = true := decide_eq_true c6
    have c6b1 : decide (600 < l1.length) = true := decide_eq_true (by omega)
    clear c6
    have H' := Aside0.mk H
    clear H
    go_wp2
    go_meet
    case rel => exact ⟨_, (true), eq_now, H', ⟨by first | omega | exact Nat.le_refl _⟩, ⟨b_now⟩⟩
   ·rw [if_neg c6] at H
    have c6b0 : decide (600 < (l1.length : Int)) = false := decide_eq_false c6
    have c6b1 : decide (600 < l1.length) = false := decide_eq_false (by omega)
    clear c6
    have H' := Aside0.mk H
    clear H
    go_wp2
    go_meet
    case rel => exact ⟨_, (decide ((a2.size : Int) > 12000)), eq_now, H', ⟨by first | omega | exact Nat.le_refl _⟩, ⟨b_now⟩⟩
 case rest =>
  clear HC4
  obtain ⟨kq, x29_3, rfl, HA, HJ3, HB⟩ := hcut
  cases kq with
  | zero => exact absurd HA.out (by simp [stockadelaw03_AsmBack.j0])
  | succ kj3 =>
   have H := HA.out
   clear HA
   simp only [stockadelaw03_AsmBack.j0] at H
   by_cases c7 : x29_3 = true
   ·subst c7
    replace H := sh_t H
    obtain ⟨t608, A8, H⟩ := bs_ H; try dsimp only at H
    obtain rfl := Option.some.inj H
    go_wp2_with (first | ((with_reducible refine gate_callee (f := 8) rfl ?_); refine sh_call (some 30) Tryd.func8 #[] ?_; (with_reducible refine (stockadelaw03_wakes.calls kj3  t608 _ ?side1 ?side2 ?side3 ?side4 (by first | rfl | exact HRT.out) A8.out).mono ?_); (case side1 => repeat (first | exact (Kd.C_below HRG0.out HB.out) | (with_reducible refine Kd.C_alloc ?_ _) | (with_reducible refine Kd.C_drewN ?_ _) | (with_reducible refine Kd.C_drew ?_))); (case side2 => repeat (first | exact (Kd.C_below HRG1.out HB.out) | (with_reducible refine Kd.C_alloc ?_ _) | (with_reducible refine Kd.C_drewN ?_ _) | (with_reducible refine Kd.C_drew ?_))); (case side3 => repeat (first | exact (Kd.C_below HRG2.out HB.out) | (with_reducible refine Kd.C_alloc ?_ _) | (with_reducible refine Kd.C_drewN ?_ _) | (with_reducible refine Kd.C_drew ?_))); (case side4 => repeat (first | exact (Kd.C_below HRG3.out HB.out) | (with_reducible refine Kd.C_alloc ?_ _) | (with_reducible refine Kd.C_drewN ?_ _) | (with_reducible refine Kd.C_drew ?_))); rintro e w9 ⟨rfl, hb⟩; refine ⟨_, rfl, ?_⟩; replace HB := sh_b (w := w) hb; (try clear hb); (try clear hb2); (try clear hk); (try clear hi)))
    go_ret
    exact ⟨ret_now, b_now⟩
   ·replace c7 := Bool.eq_false_iff.mpr c7
    subst c7
    replace H := sh_f H
    obtain ⟨⟨t609, t610⟩, A10, H⟩ := bs_ H; try dsimp only at H
    have HC11 := Aside0.mk H
    clear H
    go_upto_if 37 with (first | ((with_reducible refine gate_callee (f := 9) rfl ?_); refine sh_call (some 33) Tryd.func9 #[.slice A0 l0.length c0] ?_; (with_reducible refine (asm_Print.calls kj3 _ _ l0 t609 t610 _ ?side1 ?side2 ?side3 ?side4 ?side5 ?side6 A10.out).mono ?_); (case side1 => repeat (first | exact (Kd.C_below HR0.out HB.out) | (with_reducible refine Kd.C_alloc ?_ _) | (with_reducible refine Kd.C_drewN ?_ _) | (with_reducible refine Kd.C_drew ?_))); (case side2 => exact HC0.out); (case side3 => repeat (first | exact (Kd.C_below HRG0.out HB.out) | (with_reducible refine Kd.C_alloc ?_ _) | (with_reducible refine Kd.C_drewN ?_ _) | (with_reducible refine Kd.C_drew ?_))); (case side4 => repeat (first | exact (Kd.C_below HRG1.out HB.out) | (with_reducible refine Kd.C_alloc ?_ _) | (with_reducible refine Kd.C_drewN ?_ _) | (with_reducible refine Kd.C_drew ?_))); (case side5 => repeat (first | exact (Kd.C_below HRG2.out HB.out) | (with_reducible refine Kd.C_alloc ?_ _) | (with_reducible refine Kd.C_drewN ?_ _) | (with_reducible refine Kd.C_drew ?_))); (case side6 => repeat (first | exact (Kd.C_below HRG3.out HB.out) | (with_reducible refine Kd.C_alloc ?_ _) | (with_reducible refine Kd.C_drewN ?_ _) | (with_reducible refine Kd.C_drew ?_))); rintro e w12 ⟨rfl, hb⟩; refine ⟨_, rfl, ?_⟩; replace HB := sh_b (w := w) hb; (try clear hb); (try clear hb2); (try clear hk); (try clear hi)))
    (try simp only [Act.put, List.setIfInBounds_toArray, List.set_cons_zero, List.set_cons_succ])
    go_cut [] (fun wc => ∃ (kq : Nat), Aside0 (stockadelaw03_AsmBack.j2 kq a2 = some r) ∧ Aside0 (kq ≤ kj3) ∧ Aside0 (Below w.heap.size w wc))
    case first =>
     have H := HC11.out
     clear HC11
     by_cases c13 : t610 = 0
     ·rw [if_pos c13] at H
      obtain ⟨c13b0, c13b1⟩ := eqT c13
      clear c13
      (first | rw [c13b0] | (simp only [i64_w, i32_w]; rw [c13b0]) | skip)
      obtain ⟨⟨t611, t612, t613⟩, A14, H⟩ := bs_ H; try dsimp only at H
      have HC15 := Aside0.mk H
      clear H
      go_upto_region 6 with (first | ((with_reducible refine gate_callee (f := 12) rfl ?_); refine sh_call (some 40) Tryd.func12 #[.string t609] ?_; (with_reducible refine (asm_Parse.calls kj3 t609 t611 t612 t613 _ ?side1 ?side2 ?side3 ?side4 A14.out).mono ?_); (case side1 => repeat (first | exact (Kd.C_below HRG0.out HB.out) | (with_reducible refine Kd.C_alloc ?_ _) | (with_reducible refine Kd.C_drewN ?_ _) | (with_reducible refine Kd.C_drew ?_))); (case side2 => repeat (first | exact (Kd.C_below HRG1.out HB.out) | (with_reducible refine Kd.C_alloc ?_ _) | (with_reducible refine Kd.C_drewN ?_ _) | (with_reducible refine Kd.C_drew ?_))); (case side3 => repeat (first | exact (Kd.C_below HRG2.out HB.out) | (with_reducible refine Kd.C_alloc ?_ _) | (with_reducible refine Kd.C_drewN ?_ _) | (with_reducible refine Kd.C_drew ?_))); (case side4 => repeat (first | exact (Kd.C_below HRG3.out HB.out) | (with_reducible refine Kd.C_alloc ?_ _) | (with_reducible refine Kd.C_drewN ?_ _) | (with_reducible refine Kd.C_drew ?_))); rintro e w16 ⟨v614, rfl, ho0, hb⟩; refine ⟨_, rfl, ?_⟩; have HO615 := Aside0.mk (Kd.R_lower ho0 (below_size b_now)); replace HB := sh_b (w := w) hb; (try clear hb); (try clear hb2); (try clear hk); (try clear hi); (try clear ho0)))
      (try simp only [Act.put, List.setIfInBounds_toArray, List.set_cons_zero, List.set_cons_succ])
      go_cut [55] (fun v55 wc => ∃ (kq : Nat) (x55_14 : Bool), v55 = .bool x55_14 ∧ Aside0 (stockadelaw03_AsmBack.j1 kq l0 l1 a2 t609 x55_14 = some r) ∧ Aside0 (kq ≤ kj3) ∧ Aside0 (Below w.heap.size w wc))
      case first =>
       have H := HC15.out
       clear HC15
       by_cases c17 : t613 = 0
       ·rw [if_pos c17] at H
        obtain ⟨c17b0, c17b1⟩ := eqT c17
        clear c17
        (first | rw [c17b0] | (simp only [i64_w, i32_w]; rw [c17b0]) | skip)
        by_cases c18 : t612 = 0
        ·rw [if_pos c18] at H
         obtain ⟨c18b0, c18b1⟩ := eqT c18
         clear c18
         obtain ⟨t616, A19, H⟩ := bs_ H; try dsimp only at H
         have H' := Aside0.mk H
         clear H
         obtain ⟨Ao20, co20, eo20⟩ := Kd.R_slice HO615.out
         subst eo20
         go_wp2_with (first | (go_at_call 11; (with_reducible refine (stockadelaw03_same.calls kj3 _ _ t611 _ _ l0 t616 _ ?side1 ?side2 ?side3 ?side4 A19.out).mono ?_); (case side1 => repeat (first | exact (Kd.R_reads' HO615.out).2.2 | (with_reducible refine Kd.C_alloc ?_ _) | (with_reducible refine Kd.C_drewN ?_ _) | (with_reducible refine Kd.C_drew ?_))); (case side2 => exact (Kd.R_reads' HO615.out).2.1); (case side3 => repeat (first | exact (Kd.C_below HR0.out HB.out) | (with_reducible refine Kd.C_alloc ?_ _) | (with_reducible refine Kd.C_drewN ?_ _) | (with_reducible refine Kd.C_drew ?_))); (case side4 => exact HC0.out); rintro e w' ⟨rfl, ⟨nd, rfl⟩⟩))
         go_meet
         case rel => exact ⟨_, (!t616), eq_now, H', ⟨by have := HJ3.out; first | omega | exact Nat.le_refl _⟩, ⟨b_now⟩⟩
        ·rw [if_neg c18] at H
         obtain ⟨c18b0, c18b1⟩ := eqF c18
         have H' := Aside0.mk H
         clear H
         go_wp2
         go_meet
         case rel => exact ⟨_, (true), eq_now, H', ⟨by have := HJ3.out; first | omega | exact Nat.le_refl _⟩, ⟨b_now⟩⟩
       ·rw [if_neg c17] at H
        obtain ⟨c17b0, c17b1⟩ := eqF c17
        (first | rw [c17b0] | (simp only [i64_w, i32_w]; rw [c17b0]) | skip)
        have H' := Aside0.mk H
        clear H
        go_wp2
        go_meet
        case rel => exact ⟨_, (true), eq_now, H', ⟨by have := HJ3.out; first | omega | exact Nat.le_refl _⟩, ⟨b_now⟩⟩
      case rest =>
       clear HC15
       clear c13b0 c13b1
       obtain ⟨kq, x55_14, rfl, HA, HJ14, HB⟩ := hcut
       cases kq with
       | zero => exact absurd HA.out (by simp [stockadelaw03_AsmBack.j1])
       | succ kj14 =>
        have H := HA.out
        clear HA
        simp only [stockadelaw03_AsmBack.j1] at H
        by_cases c21 : x55_14 = true
        ·subst c21
         replace H := sh_t H
         obtain rfl := Option.some.inj H
         exact absurd HRT.out (by simp)
        ·replace c21 := Bool.eq_false_iff.mpr c21
         subst c21
         replace H := sh_f H
         obtain ⟨⟨t617, t618⟩, A22, H⟩ := bs_ H; try dsimp only at H
         by_cases c23 : t618 = 0
         ·rw [if_pos c23] at H
          obtain ⟨c23b0, c23b1⟩ := eqT c23
          clear c23
          obtain ⟨t619, A24, H⟩ := bs_ H; try dsimp only at H
          by_cases c25 : ((t609.toList == t617.toList) != t619) = true
          ·rw [if_pos c25] at H
           have c25b0 : ((t609.toList == t617.toList) != t619) = true := c25
           (try (have c25b1 : decide ((t609.toList == t617.toList) = t619) = false := by simpa using c25))
           (try (have c25b2 : ((t609.toList == t617.toList) == t619) = false := by simpa using c25))
           (try (have c25b3 : ¬ ((t609.toList == t617.toList) = t619) := by simpa using c25))
           clear c25
           obtain rfl := Option.some.inj H
           exact absurd HRT.out (by simp)
          ·rw [if_neg c25] at H
           have c25b0 : ((t609.toList == t617.toList) != t619) = false := by simpa using c25
           (try (have c25b1 : decide ((t609.toList == t617.toList) = t619) = true := by simpa using c25))
           (try (have c25b2 : ((t609.toList == t617.toList) == t619) = true := by simpa using c25))
           clear c25
           have H' := Aside0.mk H
           clear H
           go_wp2_with (first | ((with_reducible refine gate_callee (f := 9) rfl ?_); refine sh_call (some 58) Tryd.func9 #[.slice A1 l1.length c1] ?_; (with_reducible refine (asm_Print.calls kj14 _ _ l1 t617 t618 _ ?side1 ?side2 ?side3 ?side4 ?side5 ?side6 A22.out).mono ?_); (case side1 => repeat (first | exact (Kd.C_below HR1.out HB.out) | (with_reducible refine Kd.C_alloc ?_ _) | (with_reducible refine Kd.C_drewN ?_ _) | (with_reducible refine Kd.C_drew ?_))); (case side2 => exact HC1.out); (case side3 => repeat (first | exact (Kd.C_below HRG0.out HB.out) | (with_reducible refine Kd.C_alloc ?_ _) | (with_reducible refine Kd.C_drewN ?_ _) | (with_reducible refine Kd.C_drew ?_))); (case side4 => repeat (first | exact (Kd.C_below HRG1.out HB.out) | (with_reducible refine Kd.C_alloc ?_ _) | (with_reducible refine Kd.C_drewN ?_ _) | (with_reducible refine Kd.C_drew ?_))); (case side5 => repeat (first | exact (Kd.C_below HRG2.out HB.out) | (with_reducible refine Kd.C_alloc ?_ _) | (with_reducible refine Kd.C_drewN ?_ _) | (with_reducible refine Kd.C_drew ?_))); (case side6 => repeat (first | exact (Kd.C_below HRG3.out HB.out) | (with_reducible refine Kd.C_alloc ?_ _) | (with_reducible refine Kd.C_drewN ?_ _) | (with_reducible refine Kd.C_drew ?_))); rintro e w26 ⟨rfl, hb⟩; refine ⟨_, rfl, ?_⟩; replace HB := sh_b (w := w) hb; (try clear hb); (try clear hb2); (try clear hk); (try clear hi)) | (go_at_call 11; (with_reducible refine (stockadelaw03_same.calls kj14 _ _ l0 _ _ l1 t619 _ ?side1 ?side2 ?side3 ?side4 A24.out).mono ?_); (case side1 => repeat (first | exact (Kd.C_below HR0.out HB.out) | (with_reducible refine Kd.C_alloc ?_ _) | (with_reducible refine Kd.C_drewN ?_ _) | (with_reducible refine Kd.C_drew ?_))); (case side2 => exact HC0.out); (case side3 => repeat (first | exact (Kd.C_below HR1.out HB.out) | (with_reducible refine Kd.C_alloc ?_ _) | (with_reducible refine Kd.C_drewN ?_ _) | (with_reducible refine Kd.C_drew ?_))); (case side4 => exact HC1.out); rintro e w' ⟨rfl, ⟨nd, rfl⟩⟩))
           go_meet
           case rel => exact ⟨_, H', ⟨by have := HJ3.out; have := HJ14.out; first | omega | exact Nat.le_refl _⟩, ⟨b_now⟩⟩
         ·rw [if_neg c23] at H
          obtain ⟨c23b0, c23b1⟩ := eqF c23
          have H' := Aside0.mk H
          clear H
          go_wp2_with (first | ((with_reducible refine gate_callee (f := 9) rfl ?_); refine sh_call (some 58) Tryd.func9 #[.slice A1 l1.length c1] ?_; (with_reducible refine (asm_Print.calls kj14 _ _ l1 t617 t618 _ ?side1 ?side2 ?side3 ?side4 ?side5 ?side6 A22.out).mono ?_); (case side1 => repeat (first | exact (Kd.C_below HR1.out HB.out) | (with_reducible refine Kd.C_alloc ?_ _) | (with_reducible refine Kd.C_drewN ?_ _) | (with_reducible refine Kd.C_drew ?_))); (case side2 => exact HC1.out); (case side3 => repeat (first | exact (Kd.C_below HRG0.out HB.out) | (with_reducible refine Kd.C_alloc ?_ _) | (with_reducible refine Kd.C_drewN ?_ _) | (with_reducible refine Kd.C_drew ?_))); (case side4 => repeat (first | exact (Kd.C_below HRG1.out HB.out) | (with_reducible refine Kd.C_alloc ?_ _) | (with_reducible refine Kd.C_drewN ?_ _) | (with_reducible refine Kd.C_drew ?_))); (case side5 => repeat (first | exact (Kd.C_below HRG2.out HB.out) | (with_reducible refine Kd.C_alloc ?_ _) | (with_reducible refine Kd.C_drewN ?_ _) | (with_reducible refine Kd.C_drew ?_))); (case side6 => repeat (first | exact (Kd.C_below HRG3.out HB.out) | (with_reducible refine Kd.C_alloc ?_ _) | (with_reducible refine Kd.C_drewN ?_ _) | (with_reducible refine Kd.C_drew ?_))); rintro e w27 ⟨rfl, hb⟩; refine ⟨_, rfl, ?_⟩; replace HB := sh_b (w := w) hb; (try clear hb); (try clear hb2); (try clear hk); (try clear hi)))
          go_meet
          case rel => exact ⟨_, H', ⟨by have := HJ3.out; have := HJ14.out; first | omega | exact Nat.le_refl _⟩, ⟨b_now⟩⟩
     ·rw [if_neg c13] at H
      obtain ⟨c13b0, c13b1⟩ := eqF c13
      (first | rw [c13b0] | (simp only [i64_w, i32_w]; rw [c13b0]) | skip)
      by_cases c28 : t609.toList = ([] : List UInt8)
      ·rw [if_pos c28] at H
       obtain ⟨c28b0, c28b1⟩ := eqT c28
       clear c28
       have H' := Aside0.mk H
       clear H
       go_wp2
       go_meet
       case rel => exact ⟨_, H', ⟨by have := HJ3.out; first | omega | exact Nat.le_refl _⟩, ⟨b_now⟩⟩
      ·rw [if_neg c28] at H
       obtain ⟨c28b0, c28b1⟩ := eqF c28
       obtain rfl := Option.some.inj H
       exact absurd HRT.out (by simp)
    case rest =>
     clear HC11
     obtain ⟨kq, HA, HJ10, HB⟩ := hcut
     cases kq with
     | zero => exact absurd HA.out (by simp [stockadelaw03_AsmBack.j2])
     | succ kj10 =>
      have H := HA.out
      clear HA
      simp only [stockadelaw03_AsmBack.j2] at H
      obtain ⟨⟨t620, t621, t622⟩, A29, H⟩ := bs_ H; try dsimp only at H
      by_cases c30 : t622 = 0
      ·rw [if_pos c30] at H
       obtain ⟨c30b0, c30b1⟩ := eqT c30
       clear c30
       obtain ⟨⟨t625, t626⟩, A31, H⟩ := bs_ H; try dsimp only at H
       by_cases c32 : t621 = 0
       ·rw [if_pos c32] at H
        obtain ⟨c32b0, c32b1⟩ := eqT c32
        clear c32
        by_cases c33 : t626 = 0
        ·rw [if_pos c33] at H
         obtain ⟨c33b0, c33b1⟩ := eqT c33
         clear c33
         by_cases c34 : t625.toList = a2.toList
         ·rw [if_pos c34] at H
          obtain ⟨c34b0, c34b1⟩ := eqT c34
          clear c34
          obtain ⟨t627, A35, H⟩ := bs_ H; try dsimp only at H
          obtain rfl := Option.some.inj H
          go_wp2_with (first | ((with_reducible refine gate_callee (f := 12) rfl ?_); refine sh_call (some 76) Tryd.func12 #[.string a2] ?_; (with_reducible refine (asm_Parse.calls kj10 a2 t620 t621 t622 _ ?side1 ?side2 ?side3 ?side4 A29.out).mono ?_); (case side1 => repeat (first | exact (Kd.C_below HRG0.out HB.out) | (with_reducible refine Kd.C_alloc ?_ _) | (with_reducible refine Kd.C_drewN ?_ _) | (with_reducible refine Kd.C_drew ?_))); (case side2 => repeat (first | exact (Kd.C_below HRG1.out HB.out) | (with_reducible refine Kd.C_alloc ?_ _) | (with_reducible refine Kd.C_drewN ?_ _) | (with_reducible refine Kd.C_drew ?_))); (case side3 => repeat (first | exact (Kd.C_below HRG2.out HB.out) | (with_reducible refine Kd.C_alloc ?_ _) | (with_reducible refine Kd.C_drewN ?_ _) | (with_reducible refine Kd.C_drew ?_))); (case side4 => repeat (first | exact (Kd.C_below HRG3.out HB.out) | (with_reducible refine Kd.C_alloc ?_ _) | (with_reducible refine Kd.C_drewN ?_ _) | (with_reducible refine Kd.C_drew ?_))); rintro e w36 ⟨v623, rfl, ho0, hb⟩; refine ⟨_, rfl, ?_⟩; have HO624 := Aside0.mk (Kd.R_lower ho0 (below_size b_now)); replace HB := sh_b (w := w) hb; (try clear hb); (try clear hb2); (try clear hk); (try clear hi); (try clear ho0); obtain ⟨Ao37, co37, eo37⟩ := Kd.R_slice HO624.out; subst eo37) | ((with_reducible refine gate_callee (f := 9) rfl ?_); refine sh_call (some 102) Tryd.func9 #[.slice Ao37 t620.length co37] ?_; (with_reducible refine (asm_Print.calls kj10 _ _ t620 t625 t626 _ ?side1 ?side2 ?side3 ?side4 ?side5 ?side6 A31.out).mono ?_); (case side1 => repeat (first | exact (Kd.R_reads' HO624.out).2.2 | (with_reducible refine Kd.C_alloc ?_ _) | (with_reducible refine Kd.C_drewN ?_ _) | (with_reducible refine Kd.C_drew ?_))); (case side2 => exact (Kd.R_reads' HO624.out).2.1); (case side3 => repeat (first | exact (Kd.C_below HRG0.out HB.out) | (with_reducible refine Kd.C_alloc ?_ _) | (with_reducible refine Kd.C_drewN ?_ _) | (with_reducible refine Kd.C_drew ?_))); (case side4 => repeat (first | exact (Kd.C_below HRG1.out HB.out) | (with_reducible refine Kd.C_alloc ?_ _) | (with_reducible refine Kd.C_drewN ?_ _) | (with_reducible refine Kd.C_drew ?_))); (case side5 => repeat (first | exact (Kd.C_below HRG2.out HB.out) | (with_reducible refine Kd.C_alloc ?_ _) | (with_reducible refine Kd.C_drewN ?_ _) | (with_reducible refine Kd.C_drew ?_))); (case side6 => repeat (first | exact (Kd.C_below HRG3.out HB.out) | (with_reducible refine Kd.C_alloc ?_ _) | (with_reducible refine Kd.C_drewN ?_ _) | (with_reducible refine Kd.C_drew ?_))); rintro e w38 ⟨rfl, hb⟩; refine ⟨_, rfl, ?_⟩; replace HO624 := Aside0.mk (Kd.R_below (by (with_reducible repeat (first | apply Kd.R_alloc | apply Kd.R_drewN | apply Kd.R_drew)); exact HO624.out) hb); replace HB := sh_b (w := w) hb; (try clear hb); (try clear hb2); (try clear hk); (try clear hi)) | (go_at_call 8; (with_reducible refine (stockadelaw03_wakes.calls kj10  t627 _ ?side1 ?side2 ?side3 ?side4 (by first | rfl | exact HRT.out) A35.out).mono ?_); (case side1 => repeat (first | exact (Kd.C_below HRG0.out HB.out) | (with_reducible refine Kd.C_alloc ?_ _) | (with_reducible refine Kd.C_drewN ?_ _) | (with_reducible refine Kd.C_drew ?_))); (case side2 => repeat (first | exact (Kd.C_below HRG1.out HB.out) | (with_reducible refine Kd.C_alloc ?_ _) | (with_reducible refine Kd.C_drewN ?_ _) | (with_reducible refine Kd.C_drew ?_))); (case side3 => repeat (first | exact (Kd.C_below HRG2.out HB.out) | (with_reducible refine Kd.C_alloc ?_ _) | (with_reducible refine Kd.C_drewN ?_ _) | (with_reducible refine Kd.C_drew ?_))); (case side4 => repeat (first | exact (Kd.C_below HRG3.out HB.out) | (with_reducible refine Kd.C_alloc ?_ _) | (with_reducible refine Kd.C_drewN ?_ _) | (with_reducible refine Kd.C_drew ?_))); rintro e w39 ⟨rfl, hb⟩; replace HO624 := Aside0.mk (Kd.R_below (by (with_reducible repeat (first | apply Kd.R_alloc | apply Kd.R_drewN | apply Kd.R_drew)); exact HO624.out) hb); replace HB := sh_b (w := w) hb; (try clear hb); (try clear hb2); (try clear hk); (try clear hi)))
          go_ret
          exact ⟨ret_now, b_now⟩
         ·rw [if_neg c34] at H
          obtain ⟨c34b0, c34b1⟩ := eqF c34
          obtain rfl := Option.some.inj H
          exact absurd HRT.out (by simp)
        ·rw [if_neg c33] at H
         obtain ⟨c33b0, c33b1⟩ := eqF c33
         obtain rfl := Option.some.inj H
         exact absurd HRT.out (by simp)
       ·rw [if_neg c32] at H
        obtain ⟨c32b0, c32b1⟩ := eqF c32
        obtain rfl := Option.some.inj H
        exact absurd HRT.out (by simp)
      ·rw [if_neg c30] at H
       obtain ⟨c30b0, c30b1⟩ := eqF c30
       by_cases c40 : (t620.length : Int) = 0
       ·rw [if_pos c40] at H
        obtain ⟨c40b0, c40b1⟩ := eqT c40
        clear c40
        by_cases c41 : t621 > 0
        ·rw [if_pos c41] at H
         have c41b0 : decide (0 < t621) = true := decide_eq_true c41
         clear c41
         by_cases c42 : t622 = 5
         ·rw [if_pos c42] at H
          obtain ⟨c42b0, c42b1⟩ := eqT c42
          clear c42
          obtain ⟨t628, A43, H⟩ := bs_ H; try dsimp only at H
          obtain rfl := Option.some.inj H
          go_wp2_with (first | ((with_reducible refine gate_callee (f := 12) rfl ?_); refine sh_call (some 76) Tryd.func12 #[.string a2] ?_; (with_reducible refine (asm_Parse.calls kj10 a2 t620 t621 t622 _ ?side1 ?side2 ?side3 ?side4 A29.out).mono ?_); (case side1 => repeat (first | exact (Kd.C_below HRG0.out HB.out) | (with_reducible refine Kd.C_alloc ?_ _) | (with_reducible refine Kd.C_drewN ?_ _) | (with_reducible refine Kd.C_drew ?_))); (case side2 => repeat (first | exact (Kd.C_below HRG1.out HB.out) | (with_reducible refine Kd.C_alloc ?_ _) | (with_reducible refine Kd.C_drewN ?_ _) | (with_reducible refine Kd.C_drew ?_))); (case side3 => repeat (first | exact (Kd.C_below HRG2.out HB.out) | (with_reducible refine Kd.C_alloc ?_ _) | (with_reducible refine Kd.C_drewN ?_ _) | (with_reducible refine Kd.C_drew ?_))); (case side4 => repeat (first | exact (Kd.C_below HRG3.out HB.out) | (with_reducible refine Kd.C_alloc ?_ _) | (with_reducible refine Kd.C_drewN ?_ _) | (with_reducible refine Kd.C_drew ?_))); rintro e w44 ⟨v623, rfl, ho0, hb⟩; refine ⟨_, rfl, ?_⟩; have HO624 := Aside0.mk (Kd.R_lower ho0 (below_size b_now)); replace HB := sh_b (w := w) hb; (try clear hb); (try clear hb2); (try clear hk); (try clear hi); (try clear ho0); obtain ⟨Ao45, co45, eo45⟩ := Kd.R_slice HO624.out; subst eo45) | (go_at_call 8; (with_reducible refine (stockadelaw03_wakes.calls kj10  t628 _ ?side1 ?side2 ?side3 ?side4 (by first | rfl | exact HRT.out) A43.out).mono ?_); (case side1 => repeat (first | exact (Kd.C_below HRG0.out HB.out) | (with_reducible refine Kd.C_alloc ?_ _) | (with_reducible refine Kd.C_drewN ?_ _) | (with_reducible refine Kd.C_drew ?_))); (case side2 => repeat (first | exact (Kd.C_below HRG1.out HB.out) | (with_reducible refine Kd.C_alloc ?_ _) | (with_reducible refine Kd.C_drewN ?_ _) | (with_reducible refine Kd.C_drew ?_))); (case side3 => repeat (first | exact (Kd.C_below HRG2.out HB.out) | (with_reducible refine Kd.C_alloc ?_ _) | (with_reducible refine Kd.C_drewN ?_ _) | (with_reducible refine Kd.C_drew ?_))); (case side4 => repeat (first | exact (Kd.C_below HRG3.out HB.out) | (with_reducible refine Kd.C_alloc ?_ _) | (with_reducible refine Kd.C_drewN ?_ _) | (with_reducible refine Kd.C_drew ?_))); rintro e w46 ⟨rfl, hb⟩; replace HO624 := Aside0.mk (Kd.R_below (by (with_reducible repeat (first | apply Kd.R_alloc | apply Kd.R_drewN | apply Kd.R_drew)); exact HO624.out) hb); replace HB := sh_b (w := w) hb; (try clear hb); (try clear hb2); (try clear hk); (try clear hi)))
          go_ret
          exact ⟨ret_now, b_now⟩
         ·rw [if_neg c42] at H
          obtain ⟨c42b0, c42b1⟩ := eqF c42
          by_cases c47 : t622 = 3
          ·rw [if_pos c47] at H
           obtain ⟨c47b0, c47b1⟩ := eqT c47
           clear c47
           obtain ⟨t629, A48, H⟩ := bs_ H; try dsimp only at H
           obtain rfl := Option.some.inj H
           go_wp2_with (first | ((with_reducible refine gate_callee (f := 12) rfl ?_); refine sh_call (some 76) Tryd.func12 #[.string a2] ?_; (with_reducible refine (asm_Parse.calls kj10 a2 t620 t621 t622 _ ?side1 ?side2 ?side3 ?side4 A29.out).mono ?_); (case side1 => repeat (first | exact (Kd.C_below HRG0.out HB.out) | (with_reducible refine Kd.C_alloc ?_ _) | (with_reducible refine Kd.C_drewN ?_ _) | (with_reducible refine Kd.C_drew ?_))); (case side2 => repeat (first | exact (Kd.C_below HRG1.out HB.out) | (with_reducible refine Kd.C_alloc ?_ _) | (with_reducible refine Kd.C_drewN ?_ _) | (with_reducible refine Kd.C_drew ?_))); (case side3 => repeat (first | exact (Kd.C_below HRG2.out HB.out) | (with_reducible refine Kd.C_alloc ?_ _) | (with_reducible refine Kd.C_drewN ?_ _) | (with_reducible refine Kd.C_drew ?_))); (case side4 => repeat (first | exact (Kd.C_below HRG3.out HB.out) | (with_reducible refine Kd.C_alloc ?_ _) | (with_reducible refine Kd.C_drewN ?_ _) | (with_reducible refine Kd.C_drew ?_))); rintro e w49 ⟨v623, rfl, ho0, hb⟩; refine ⟨_, rfl, ?_⟩; have HO624 := Aside0.mk (Kd.R_lower ho0 (below_size b_now)); replace HB := sh_b (w := w) hb; (try clear hb); (try clear hb2); (try clear hk); (try clear hi); (try clear ho0); obtain ⟨Ao50, co50, eo50⟩ := Kd.R_slice HO624.out; subst eo50) | (go_at_call 8; (with_reducible refine (stockadelaw03_wakes.calls kj10  t629 _ ?side1 ?side2 ?side3 ?side4 (by first | rfl | exact HRT.out) A48.out).mono ?_); (case side1 => repeat (first | exact (Kd.C_below HRG0.out HB.out) | (with_reducible refine Kd.C_alloc ?_ _) | (with_reducible refine Kd.C_drewN ?_ _) | (with_reducible refine Kd.C_drew ?_))); (case side2 => repeat (first | exact (Kd.C_below HRG1.out HB.out) | (with_reducible refine Kd.C_alloc ?_ _) | (with_reducible refine Kd.C_drewN ?_ _) | (with_reducible refine Kd.C_drew ?_))); (case side3 => repeat (first | exact (Kd.C_below HRG2.out HB.out) | (with_reducible refine Kd.C_alloc ?_ _) | (with_reducible refine Kd.C_drewN ?_ _) | (with_reducible refine Kd.C_drew ?_))); (case side4 => repeat (first | exact (Kd.C_below HRG3.out HB.out) | (with_reducible refine Kd.C_alloc ?_ _) | (with_reducible refine Kd.C_drewN ?_ _) | (with_reducible refine Kd.C_drew ?_))); rintro e w51 ⟨rfl, hb⟩; replace HO624 := Aside0.mk (Kd.R_below (by (with_reducible repeat (first | apply Kd.R_alloc | apply Kd.R_drewN | apply Kd.R_drew)); exact HO624.out) hb); replace HB := sh_b (w := w) hb; (try clear hb); (try clear hb2); (try clear hk); (try clear hi)))
           go_ret
           exact ⟨ret_now, b_now⟩
          ·rw [if_neg c47] at H
           obtain ⟨c47b0, c47b1⟩ := eqF c47
           obtain rfl := Option.some.inj H
           exact absurd HRT.out (by simp)
        ·rw [if_neg c41] at H
         have c41b0 : decide (0 < t621) = false := decide_eq_false c41
         clear c41
         obtain rfl := Option.some.inj H
         exact absurd HRT.out (by simp)
       ·rw [if_neg c40] at H
        obtain ⟨c40b0, c40b1⟩ := eqF c40
        have c40b2 : ¬ (t620 = []) := fun h_ => c40 (by rw [h_]; rfl)
        obtain rfl := Option.some.inj H
        exact absurd HRT.out (by simp)

end Go.Proofs.YtondogoepcndiaaDoor.P
