/- Made by this session's driver over the kit's printer: for each Go function a Lean function with the same answers, and a proof that the Go call comes to these answers; no conditions but the ones each theorem names. -/
import Derived.Test.YtondogoepcndiaaDoorPx0
import Derived.Test.YtondogoepcndiaaDoorPx10
import Derived.Test.YtondogoepcndiaaDoorPx21
namespace Go.Proofs.YtondogoepcndiaaDoor.P
open Go.RowKit Go.Proofs.YtondogoepcndiaaDoorW.PrintWords Go.Proofs.YtondogoepcndiaaDoorW.PrintLast Go.Proofs.YtondogoepcndiaaDoorW.PrintMore
attribute [local go_sem] max2_int min2_int max_two min_two max_three min_three max_four min_four   -- for this text's walks alone
set_option linter.unusedVariables false
set_option linter.unusedSimpArgs false

/-! ### stockadelaw03_AsmJoins: function 6 -/
mutual
def stockadelaw03_AsmJoins.j0 : Nat → ByteArray → ByteArray → Bool → Option (Bool)
 | 0, _, _, _ => none
 | k + 1, x0, x1, x24 => if x24 = true then ((stockadelaw03_wakes.f k).bind fun t630 => (some t630)) else ((asm_Parse.f k x0).bind fun bt631 => ((asm_Parse.f k x1).bind fun bt636 => (if bt631.2.2 = 0 then (stockadelaw03_AsmJoins.l0 k x0 x1 bt631.1 bt636.1 bt636.2.1 bt636.2.2 0 0) else ((stockadelaw03_wakes.f k).bind fun t641 => (some t641)))))
def stockadelaw03_AsmJoins.l0 : Nat → ByteArray → ByteArray → List (S37) → List (S37) → Int → Int → Int → Int → Option (Bool)
 | 0, _, _, _, _, _, _, _, _ => none
 | k + 1, x0, x1, x5, x8, x9, x10, x11, x12 => if x12 < (x0.size : Int) then (if 0 ≤ x12 then (if (bt x0 x12) = 10 then (stockadelaw03_AsmJoins.l0 k x0 x1 x5 x8 x9 x10 (wrap64 (x11 + 1)) (wrap64 (x12 + 1))) else (stockadelaw03_AsmJoins.l0 k x0 x1 x5 x8 x9 x10 x11 (wrap64 (x12 + 1)))) else (none)) else (if x0.size + x1.size ≤ 9223372036854775807 then ((asm_Parse.f k (x0 ++ x1)).bind fun bt642 => (if x10 = 5 then (if bt642.2.2 = 0 then (some false) else (if (bt642.1.length : Int) = 0 then (if bt642.2.2 = 5 then (if bt642.2.1 = (wrap64 (x11 + x9)) then ((stockadelaw03_wakes.f k).bind fun t647 => (some t647)) else (if bt642.2.2 = 3 then (if bt642.2.1 ≤ (wrap64 (x11 + x9)) then ((stockadelaw03_wakes.f k).bind fun t648 => (some t648)) else (some false)) else (some false))) else (if bt642.2.2 = 3 then (if bt642.2.1 ≤ (wrap64 (x11 + x9)) then ((stockadelaw03_wakes.f k).bind fun t649 => (some t649)) else (some false)) else (some false))) else (some false))) else (if x10 = 0 then (stockadelaw03_AsmJoins.j2 k x5 x8 x11 bt642.1 bt642.2.1 bt642.2.2 (decide ((wrap64 ((x5.length : Int) + (x8.length : Int))) > 512))) else (stockadelaw03_AsmJoins.j2 k x5 x8 x11 bt642.1 bt642.2.1 bt642.2.2 true)))) else (none))
def stockadelaw03_AsmJoins.j2 : Nat → List (S37) → List (S37) → Int → List (S37) → Int → Int → Bool → Option (Bool)
 | 0, _, _, _, _, _, _, _ => none
 | k + 1, x5, x8, x11, x13, x14, x15, x104 => if x104 = true then (if x15 = 3 then (if x14 > x11 then ((stockadelaw03_wakes.f k).bind fun t650 => (some t650)) else (some false)) else (some false)) else (if ([] : List (S37)).length + x5.length < 11728124029610 then ((some (([] : List (S37)) ++ x5 : List (S37))).bind fun y651 => (if y651.length + x8.length < 11728124029610 then (if x15 = 0 then (if x14 = 0 then ((stockadelaw03_same.f k x13 (y651 ++ x8)).bind fun t657 => (if t657 = true then ((stockadelaw03_wakes.f k).bind fun t658 => (some t658)) else (some false))) else (some false)) else (some false)) else (none))) else (none))
end
def stockadelaw03_AsmJoins.f (k : Nat) (a0 : ByteArray) (a1 : ByteArray) : Option (Bool) := if (a0.size : Int) > 6000 then (stockadelaw03_AsmJoins.j0 k a0 a1 true) else (stockadelaw03_AsmJoins.j0 k a0 a1 (decide ((a1.size : Int) > 6000)))
theorem stockadelaw03_AsmJoins.mono_l : ∀ k, (∀ y0 y1 y2, LeO (stockadelaw03_AsmJoins.j0 k y0 y1 y2) (stockadelaw03_AsmJoins.j0 (k + 1) y0 y1 y2)) ∧ (∀ y0 y1 y2 y3 y4 y5 y6 y7, LeO (stockadelaw03_AsmJoins.l0 k y0 y1 y2 y3 y4 y5 y6 y7) (stockadelaw03_AsmJoins.l0 (k + 1) y0 y1 y2 y3 y4 y5 y6 y7)) ∧ (∀ y0 y1 y2 y3 y4 y5 y6, LeO (stockadelaw03_AsmJoins.j2 k y0 y1 y2 y3 y4 y5 y6) (stockadelaw03_AsmJoins.j2 (k + 1) y0 y1 y2 y3 y4 y5 y6))
 | 0 => ⟨fun _ _ _ r h => by simp [stockadelaw03_AsmJoins.j0] at h, fun _ _ _ _ _ _ _ _ r h => by simp [stockadelaw03_AsmJoins.l0] at h, fun _ _ _ _ _ _ _ r h => by simp [stockadelaw03_AsmJoins.j2] at h⟩
 | k + 1 => by
  obtain ⟨ih0, ih1, ih2⟩ := stockadelaw03_AsmJoins.mono_l k
  refine ⟨?_, ?_, ?_⟩
  ·intro y0 y1 y2
   unfold stockadelaw03_AsmJoins.j0
   repeat' first
   | (with_reducible exact ih0 _ _ _)
   | (with_reducible exact ih1 _ _ _ _ _ _ _ _)
   | (with_reducible exact ih2 _ _ _ _ _ _ _)
   | (with_reducible exact asm_Parse.mono _ _)
   | (with_reducible exact stockadelaw03_same.mono _ _ _)
   | (with_reducible exact stockadelaw03_wakes.mono _)
   | (with_reducible exact LeO.refl _)
   | (with_reducible exact LeO.none _)
   | (with_reducible refine LeO.ite ?_ ?_)
   | (with_reducible refine LeO.bind ?_ (fun _ => ?_))
   | refine LeO.ite ?_ ?_
   | refine LeO.bind ?_ (fun _ => ?_)
  ·intro y0 y1 y2 y3 y4 y5 y6 y7
   unfold stockadelaw03_AsmJoins.l0
   repeat' first
   | (with_reducible exact ih0 _ _ _)
   | (with_reducible exact ih1 _ _ _ _ _ _ _ _)
   | (with_reducible exact ih2 _ _ _ _ _ _ _)
   | (with_reducible exact asm_Parse.mono _ _)
   | (with_reducible exact stockadelaw03_same.mono _ _ _)
   | (with_reducible exact stockadelaw03_wakes.mono _)
   | (with_reducible exact LeO.refl _)
   | (with_reducible exact LeO.none _)
   | (with_reducible refine LeO.ite ?_ ?_)
   | (with_reducible refine LeO.bind ?_ (fun _ => ?_))
   | refine LeO.ite ?_ ?_
   | refine LeO.bind ?_ (fun _ => ?_)
  ·intro y0 y1 y2 y3 y4 y5 y6
   unfold stockadelaw03_AsmJoins.j2
   repeat' first
   | (with_reducible exact ih0 _ _ _)
   | (with_reducible exact ih1 _ _ _ _ _ _ _ _)
   | (with_reducible exact ih2 _ _ _ _ _ _ _)
   | (with_reducible exact asm_Parse.mono _ _)
   | (with_reducible exact stockadelaw03_same.mono _ _ _)
   | (with_reducible exact stockadelaw03_wakes.mono _)
   | (with_reducible exact LeO.refl _)
   | (with_reducible exact LeO.none _)
   | (with_reducible refine LeO.ite ?_ ?_)
   | (with_reducible refine LeO.bind ?_ (fun _ => ?_))
   | refine LeO.ite ?_ ?_
   | refine LeO.bind ?_ (fun _ => ?_)
theorem stockadelaw03_AsmJoins.mono : ∀ a0 a1 k, LeO (stockadelaw03_AsmJoins.f k a0 a1) (stockadelaw03_AsmJoins.f (k + 1) a0 a1) := by
 intro a0 a1 k
 obtain ⟨ih0, ih1, ih2⟩ := stockadelaw03_AsmJoins.mono_l k
 unfold stockadelaw03_AsmJoins.f
 repeat' first
   | (with_reducible exact ih0 _ _ _)
   | (with_reducible exact ih1 _ _ _ _ _ _ _ _)
   | (with_reducible exact ih2 _ _ _ _ _ _ _)
   | (with_reducible exact asm_Parse.mono _ _)
   | (with_reducible exact stockadelaw03_same.mono _ _ _)
   | (with_reducible exact stockadelaw03_wakes.mono _)
   | (with_reducible exact LeO.refl _)
   | (with_reducible exact LeO.none _)
   | (with_reducible refine LeO.ite ?_ ?_)
   | (with_reducible refine LeO.bind ?_ (fun _ => ?_))
   | refine LeO.ite ?_ ?_
   | refine LeO.bind ?_ (fun _ => ?_)
set_option maxHeartbeats 8000000 in
set_option maxRecDepth 100000 in
theorem stockadelaw03_AsmJoins.calls (k : Nat) (a0 : ByteArray) (a1 : ByteArray) (r : Bool) (w : World) (hrG0 : Kd.C Kd.string w (some ⟨0, 0, none⟩) gl0.length gl0) (hrG1 : Kd.C Kd.string w (some ⟨1, 0, none⟩) gl1.length gl1) (hrG2 : Kd.C (Kd.int .i64) w (some ⟨2, 0, none⟩) gl2.length gl2) (hrG3 : Kd.C kGF w (some ⟨3, 0, none⟩) gl3.length gl3) (hr_ : r = true) (h : stockadelaw03_AsmJoins.f k a0 a1 = some r) :
  Calls Tryd.prog 6 #[.string a0, .string a1] w fun e w' => e = .returned (.bool r) ∧ Below w.heap.size w w' := by
 have HRG0 := Aside0.mk hrG0
 clear hrG0
 have HRG1 := Aside0.mk hrG1
 clear hrG1
 have HRG2 := Aside0.mk hrG2
 clear hrG2
 have HRG3 := Aside0.mk hrG3
 clear hrG3
 have HRT := Aside0.mk hr_
 clear hr_
 have HB := Aside0.mk (Below.refl w.heap.size w)
 have H : (if (a0.size : Int) > 6000 then (stockadelaw03_AsmJoins.j0 k a0 a1 true) else (stockadelaw03_AsmJoins.j0 k a0 a1 (decide ((a1.size : Int) > 6000)))) = some r := h
 clear h
 have HC3 := Aside0.mk H
 clear H
 go_enter Tryd.func6, Tryd.ntmps6
 go_upto_region 1 with (fail)
 go_cut [24] (fun v24 wc => ∃ (kq : Nat) (x24_2 : Bool), v24 = .bool x24_2 ∧ Aside0 (stockadelaw03_AsmJoins.j0 kq a0 a1 x24_2 = some r) ∧ Aside0 (kq ≤ k) ∧ Aside0 (Below w.heap.size w wc))
 case first =>
  have H := HC3.out
  clear HC3
  by_cases c4 : (a0.size : Int) > 6000
  ·rw [if_pos c4] at H
   have c4b0 : decide (6000 < (a0.size : Int)) = true := decide_eq_true c4
   have c4b1 : decide (6000 < a0.size) = true := decide_eq_true (by omega)
   clear c4
   (first | rw [c4b0] | (simp only [i64_w, i32_w]; rw [c4b0]) | skip)
   have H' := Aside0.mk H
   clear H
   go_wp2
   go_meet
   case rel => exact ⟨_, (true), eq_now, H', ⟨by first | omega | exact Nat.le_refl _⟩, ⟨b_now⟩⟩
  ·rw [if_neg c4] at H
   have c4b0 : decide (6000 < (a0.size : Int)) = false := decide_eq_false c4
   have c4b1 : decide (6000 < a0.size) = false := decide_eq_false (by omega)
   clear c4
   (first | rw [c4b0] | (simp only [i64_w, i32_w]; rw [c4b0]) | skip)
   have H' := Aside0.mk H
   clear H
   go_wp2
   go_meet
   case rel => exact ⟨_, (decide ((a1.size : Int) > 6000)), eq_now, H', ⟨by first | omega | exact Nat.le_refl _⟩, ⟨b_now⟩⟩
 case rest =>
  clear HC3
  obtain ⟨kq, x24_2, rfl, HA, HJ2, HB⟩ := hcut
  cases kq with
  | zero => exact absurd HA.out (by simp [stockadelaw03_AsmJoins.j0])
  | succ kj2 =>
   have H := HA.out
   clear HA
   simp only [stockadelaw03_AsmJoins.j0] at H
   by_cases c5 : x24_2 = true
   ·subst c5
    replace H := sh_t H
    obtain ⟨t630, A6, H⟩ := bs_ H; try dsimp only at H
    obtain rfl := Option.some.inj H
    go_wp2_with (first | ((with_reducible refine gate_callee (f := 8) rfl ?_); refine sh_call (some 25) Tryd.func8 #[] ?_; (with_reducible refine (stockadelaw03_wakes.calls kj2  t630 _ ?side1 ?side2 ?side3 ?side4 (by first | rfl | exact HRT.out) A6.out).mono ?_); (case side1 => repeat (first | exact (Kd.C_below HRG0.out HB.out) | (with_reducible refine Kd.C_alloc ?_ _) | (with_reducible refine Kd.C_drewN ?_ _) | (with_reducible refine Kd.C_drew ?_))); (case side2 => repeat (first | exact (Kd.C_below HRG1.out HB.out) | (with_reducible refine Kd.C_alloc ?_ _) | (with_reducible refine Kd.C_drewN ?_ _) | (with_reducible refine Kd.C_drew ?_))); (case side3 => repeat (first | exact (Kd.C_below HRG2.out HB.out) | (with_reducible refine Kd.C_alloc ?_ _) | (with_reducible refine Kd.C_drewN ?_ _) | (with_reducible refine Kd.C_drew ?_))); (case side4 => repeat (first | exact (Kd.C_below HRG3.out HB.out) | (with_reducible refine Kd.C_alloc ?_ _) | (with_reducible refine Kd.C_drewN ?_ _) | (with_reducible refine Kd.C_drew ?_))); rintro e w7 ⟨rfl, hb⟩; refine ⟨_, rfl, ?_⟩; replace HB := sh_b (w := w) hb; (try clear hb); (try clear hb2); (try clear hk); (try clear hi)))
    go_ret
    exact ⟨ret_now, b_now⟩
   ·replace c5 := Bool.eq_false_iff.mpr c5
    subst c5
    replace H := sh_f H
    obtain ⟨⟨t631, t632, t633⟩, A8, H⟩ := bs_ H; try dsimp only at H
    obtain ⟨⟨t636, t637, t638⟩, A9, H⟩ := bs_ H; try dsimp only at H
    by_cases c10 : t633 = 0
    ·rw [if_pos c10] at H
     obtain ⟨c10b0, c10b1⟩ := eqT c10
     clear c10
     have H' := Aside0.mk H
     clear H
     go_wp2_with (first | ((with_reducible refine gate_callee (f := 12) rfl ?_); refine sh_call (some 28) Tryd.func12 #[.string a0] ?_; (with_reducible refine (asm_Parse.calls kj2 a0 t631 t632 t633 _ ?side1 ?side2 ?side3 ?side4 A8.out).mono ?_); (case side1 => repeat (first | exact (Kd.C_below HRG0.out HB.out) | (with_reducible refine Kd.C_alloc ?_ _) | (with_reducible refine Kd.C_drewN ?_ _) | (with_reducible refine Kd.C_drew ?_))); (case side2 => repeat (first | exact (Kd.C_below HRG1.out HB.out) | (with_reducible refine Kd.C_alloc ?_ _) | (with_reducible refine Kd.C_drewN ?_ _) | (with_reducible refine Kd.C_drew ?_))); (case side3 => repeat (first | exact (Kd.C_below HRG2.out HB.out) | (with_reducible refine Kd.C_alloc ?_ _) | (with_reducible refine Kd.C_drewN ?_ _) | (with_reducible refine Kd.C_drew ?_))); (case side4 => repeat (first | exact (Kd.C_below HRG3.out HB.out) | (with_reducible refine Kd.C_alloc ?_ _) | (with_reducible refine Kd.C_drewN ?_ _) | (with_reducible refine Kd.C_drew ?_))); rintro e w11 ⟨v634, rfl, ho0, hb⟩; refine ⟨_, rfl, ?_⟩; have HO635 := Aside0.mk (Kd.R_lower ho0 (below_size b_now)); replace HB := sh_b (w := w) hb; (try clear hb); (try clear hb2); (try clear hk); (try clear hi); (try clear ho0)) | ((with_reducible refine gate_callee (f := 12) rfl ?_); refine sh_call (some 34) Tryd.func12 #[.string a1] ?_; (with_reducible refine (asm_Parse.calls kj2 a1 t636 t637 t638 _ ?side1 ?side2 ?side3 ?side4 A9.out).mono ?_); (case side1 => repeat (first | exact (Kd.C_below HRG0.out HB.out) | (with_reducible refine Kd.C_alloc ?_ _) | (with_reducible refine Kd.C_drewN ?_ _) | (with_reducible refine Kd.C_drew ?_))); (case side2 => repeat (first | exact (Kd.C_below HRG1.out HB.out) | (with_reducible refine Kd.C_alloc ?_ _) | (with_reducible refine Kd.C_drewN ?_ _) | (with_reducible refine Kd.C_drew ?_))); (case side3 => repeat (first | exact (Kd.C_below HRG2.out HB.out) | (with_reducible refine Kd.C_alloc ?_ _) | (with_reducible refine Kd.C_drewN ?_ _) | (with_reducible refine Kd.C_drew ?_))); (case side4 => repeat (first | exact (Kd.C_below HRG3.out HB.out) | (with_reducible refine Kd.C_alloc ?_ _) | (with_reducible refine Kd.C_drewN ?_ _) | (with_reducible refine Kd.C_drew ?_))); rintro e w12 ⟨v639, rfl, ho0, hb⟩; refine ⟨_, rfl, ?_⟩; have HO640 := Aside0.mk (Kd.R_lower (Kd.R_new' ho0 (Kd.R_lt (by (with_reducible repeat (first | apply Kd.R_alloc | apply Kd.R_drewN | apply Kd.R_drew)); exact HO635.out))) (below_size b_now)); replace HO635 := Aside0.mk (Kd.R_elder' (by (with_reducible repeat (first | apply Kd.R_alloc | apply Kd.R_drewN | apply Kd.R_drew)); exact HO635.out) (Kd.R_base ho0) hb); replace HB := sh_b (w := w) hb; (try clear hb); (try clear hb2); (try clear hk); (try clear hi); (try clear ho0)))
     go_loopg [11, 12] kj2 (fun kq v11 v12 w' => ∃ (x11_2 : Int) (x12_2 : Int), v11 = .int .i64 x11_2 ∧ v12 = .int .i64 x12_2 ∧ Aside0 (stockadelaw03_AsmJoins.l0 kq a0 a1 t631 t636 t637 t638 x11_2 x12_2 = some r) ∧ Aside0 (kq ≤ kj2) ∧ Aside0 (Kd.R k37 37 w' w.heap.size (fun k_ => some k_ ≠ (v639 : Value).ownBlock) v634 t631) ∧ Aside0 (Kd.R k37 37 w' w.heap.size (fun k_ => some k_ ≠ (v634 : Value).ownBlock) v639 t636) ∧ Aside0 (Below w.heap.size w w'))
     case atStart => exact ⟨(0), (0), eq_now, eq_now, H', ⟨Nat.le_refl _⟩, ⟨by (with_reducible repeat (first | apply Kd.R_alloc | apply Kd.R_drewN | apply Kd.R_drew)); exact Kd.R_mono HO635.out (fun _ hk => hk.2)⟩, ⟨by (with_reducible repeat (first | apply Kd.R_alloc | apply Kd.R_drewN | apply Kd.R_drew)); exact Kd.R_mono HO640.out (fun _ hk => hk.2)⟩, ⟨b_now⟩⟩
     case round =>
      clear H'
      clear c10b0 c10b1
      obtain ⟨x11_2, x12_2, rfl, rfl, HA, HK2, HO_5, HO_8, HB⟩ := hrel
      cases gk with
      | zero => exact absurd HA.out (by simp [stockadelaw03_AsmJoins.l0])
      | succ k2 =>
       have H := HA.out
       clear HA
       simp only [stockadelaw03_AsmJoins.l0] at H
       by_cases c13 : x12_2 < (a0.size : Int)
       ·rw [if_pos c13] at H
        have c13b0 : decide (x12_2 < (a0.size : Int)) = true := decide_eq_true c13
        clear c13
        by_cases c14 : 0 ≤ x12_2
        ·rw [if_pos c14] at H
         have c14b0 : decide (0 ≤ x12_2) = true := decide_eq_true c14
         clear c14
         by_cases c16 : (bt a0 x12_2) = 10
         ·rw [if_pos c16] at H
          obtain ⟨c16b0, c16b1⟩ := eqT c16
          clear c16
          have H' := Aside0.mk H
          clear H
          have p15 : 0 ≤ (x12_2 : Int) := od_
          have q15 : x12_2 < (a0.size : Int) := od_
          have hx15 := bt_at a0 x12_2
          replace p15 := eq_true p15
          replace q15 := eq_true q15
          go_wp2
          go_roundg k2
          case measure => have := HJ2.out; have := HK2.out; omega
          case rel => exact ⟨(wrap64 (x11_2 + 1)), (wrap64 (x12_2 + 1)), eq_now, eq_now, H', ⟨by have := HJ2.out; have := HK2.out; omega⟩, ⟨by (with_reducible repeat (first | apply Kd.R_alloc | apply Kd.R_drewN | apply Kd.R_drew)); exact HO_5.out⟩, ⟨by (with_reducible repeat (first | apply Kd.R_alloc | apply Kd.R_drewN | apply Kd.R_drew)); exact HO_8.out⟩, ⟨b_now⟩⟩
         ·rw [if_neg c16] at H
          obtain ⟨c16b0, c16b1⟩ := eqF c16
          have H' := Aside0.mk H
          clear H
          have p15 : 0 ≤ (x12_2 : Int) := od_
          have q15 : x12_2 < (a0.size : Int) := od_
          have hx15 := bt_at a0 x12_2
          replace p15 := eq_true p15
          replace q15 := eq_true q15
          go_wp2
          go_roundg k2
          case measure => have := HJ2.out; have := HK2.out; omega
          case rel => exact ⟨(x11_2), (wrap64 (x12_2 + 1)), eq_now, eq_now, H', ⟨by have := HJ2.out; have := HK2.out; omega⟩, ⟨by (with_reducible repeat (first | apply Kd.R_alloc | apply Kd.R_drewN | apply Kd.R_drew)); exact HO_5.out⟩, ⟨by (with_reducible repeat (first | apply Kd.R_alloc | apply Kd.R_drewN | apply Kd.R_drew)); exact HO_8.out⟩, ⟨b_now⟩⟩
        ·rw [if_neg c14] at H
         exact absurd H (by simp)
       ·rw [if_neg c13] at H
        have c13b0 : decide (x12_2 < (a0.size : Int)) = false := decide_eq_false c13
        clear c13
        by_cases c17 : a0.size + a1.size ≤ 9223372036854775807
        ·rw [if_pos c17] at H
         have c17b0 := eq_true c17
         have c17b1 : decide (a0.size + a1.size ≤ 9223372036854775807) = true := decide_eq_true c17
         try have c17b2 : (9223372036854775807 < a0.size + a1.size) = False := eq_false (Nat.not_lt.2 c17)
         obtain ⟨⟨t642, t643, t644⟩, A18, H⟩ := bs_ H; try dsimp only at H
         by_cases c19 : t638 = 5
         ·rw [if_pos c19] at H
          obtain ⟨c19b0, c19b1⟩ := eqT c19
          clear c19
          by_cases c20 : t644 = 0
          ·rw [if_pos c20] at H
           obtain ⟨c20b0, c20b1⟩ := eqT c20
           clear c20
           obtain rfl := Option.some.inj H
           exact absurd HRT.out (by simp)
          ·rw [if_neg c20] at H
           obtain ⟨c20b0, c20b1⟩ := eqF c20
           by_cases c21 : (t642.length : Int) = 0
           ·rw [if_pos c21] at H
            obtain ⟨c21b0, c21b1⟩ := eqT c21
            clear c21
            by_cases c22 : t644 = 5
            ·rw [if_pos c22] at H
             obtain ⟨c22b0, c22b1⟩ := eqT c22
             clear c22
             by_cases c23 : t643 = (wrap64 (x11_2 + t637))
             ·rw [if_pos c23] at H
              obtain ⟨c23b0, c23b1⟩ := eqT c23
              clear c23
              obtain ⟨t647, A24, H⟩ := bs_ H; try dsimp only at H
              obtain rfl := Option.some.inj H
              go_wp2_with (first | ((with_reducible refine gate_callee (f := 12) rfl ?_); refine sh_call (some 57) Tryd.func12 #[.string (a0 ++ a1)] ?_; (with_reducible refine (asm_Parse.calls k2 (a0 ++ a1) t642 t643 t644 _ ?side1 ?side2 ?side3 ?side4 A18.out).mono ?_); (case side1 => repeat (first | exact (Kd.C_below HRG0.out HB.out) | (with_reducible refine Kd.C_alloc ?_ _) | (with_reducible refine Kd.C_drewN ?_ _) | (with_reducible refine Kd.C_drew ?_))); (case side2 => repeat (first | exact (Kd.C_below HRG1.out HB.out) | (with_reducible refine Kd.C_alloc ?_ _) | (with_reducible refine Kd.C_drewN ?_ _) | (with_reducible refine Kd.C_drew ?_))); (case side3 => repeat (first | exact (Kd.C_below HRG2.out HB.out) | (with_reducible refine Kd.C_alloc ?_ _) | (with_reducible refine Kd.C_drewN ?_ _) | (with_reducible refine Kd.C_drew ?_))); (case side4 => repeat (first | exact (Kd.C_below HRG3.out HB.out) | (with_reducible refine Kd.C_alloc ?_ _) | (with_reducible refine Kd.C_drewN ?_ _) | (with_reducible refine Kd.C_drew ?_))); rintro e w25 ⟨v645, rfl, ho0, hb⟩; refine ⟨_, rfl, ?_⟩; have HO646 := Aside0.mk (Kd.R_lower (Kd.R_new' (Kd.R_new' ho0 (Kd.R_lt (by (with_reducible repeat (first | apply Kd.R_alloc | apply Kd.R_drewN | apply Kd.R_drew)); exact HO_5.out))) (Kd.R_lt (by (with_reducible repeat (first | apply Kd.R_alloc | apply Kd.R_drewN | apply Kd.R_drew)); exact HO_8.out))) (below_size b_now)); replace HO_5 := Aside0.mk (Kd.R_elder' (by (with_reducible repeat (first | apply Kd.R_alloc | apply Kd.R_drewN | apply Kd.R_drew)); exact HO_5.out) (Kd.R_base ho0) hb); replace HO_8 := Aside0.mk (Kd.R_elder' (by (with_reducible repeat (first | apply Kd.R_alloc | apply Kd.R_drewN | apply Kd.R_drew)); exact HO_8.out) (Kd.R_base ho0) hb); replace HB := sh_b (w := w) hb; (try clear hb); (try clear hb2); (try clear hk); (try clear hi); (try clear ho0); obtain ⟨Ao26, co26, eo26⟩ := Kd.R_slice HO646.out; subst eo26) | (go_at_call 8; (with_reducible refine (stockadelaw03_wakes.calls k2  t647 _ ?side1 ?side2 ?side3 ?side4 (by first | rfl | exact HRT.out) A24.out).mono ?_); (case side1 => repeat (first | exact (Kd.C_below HRG0.out HB.out) | (with_reducible refine Kd.C_alloc ?_ _) | (with_reducible refine Kd.C_drewN ?_ _) | (with_reducible refine Kd.C_drew ?_))); (case side2 => repeat (first | exact (Kd.C_below HRG1.out HB.out) | (with_reducible refine Kd.C_alloc ?_ _) | (with_reducible refine Kd.C_drewN ?_ _) | (with_reducible refine Kd.C_drew ?_))); (case side3 => repeat (first | exact (Kd.C_below HRG2.out HB.out) | (with_reducible refine Kd.C_alloc ?_ _) | (with_reducible refine Kd.C_drewN ?_ _) | (with_reducible refine Kd.C_drew ?_))); (case side4 => repeat (first | exact (Kd.C_below HRG3.out HB.out) | (with_reducible refine Kd.C_alloc ?_ _) | (with_reducible refine Kd.C_drewN ?_ _) | (with_reducible refine Kd.C_drew ?_))); rintro e w27 ⟨rfl, hb⟩; replace HO_5 := Aside0.mk (Kd.R_below (by (with_reducible repeat (first | apply Kd.R_alloc | apply Kd.R_drewN | apply Kd.R_drew)); exact HO_5.out) hb); replace HO_8 := Aside0.mk (Kd.R_below (by (with_reducible repeat (first | apply Kd.R_alloc | apply Kd.R_drewN | apply Kd.R_drew)); exact HO_8.out) hb); replace HO646 := Aside0.mk (Kd.R_below (by (with_reducible repeat (first | apply Kd.R_alloc | apply Kd.R_drewN | apply Kd.R_drew)); exact HO646.out) hb); replace HB := sh_b (w := w) hb; (try clear hb); (try clear hb2); (try clear hk); (try clear hi)))
              go_ret
              exact ⟨ret_now, b_now⟩
             ·rw [if_neg c23] at H
              obtain ⟨c23b0, c23b1⟩ := eqF c23
              by_cases c28 : t644 = 3
              ·rw [if_pos c28] at H
               obtain ⟨c28b0, c28b1⟩ := eqT c28
               clear c28
               by_cases c29 : t643 ≤ (wrap64 (x11_2 + t637))
               ·rw [if_pos c29] at H
                have c29b0 : decide (t643 ≤ (wrap64 (x11_2 + t637))) = true := decide_eq_true c29
                clear c29
                obtain ⟨t648, A30, H⟩ := bs_ H; try dsimp only at H
                obtain rfl := Option.some.inj H
                go_wp2_with (first | ((with_reducible refine gate_callee (f := 12) rfl ?_); refine sh_call (some 57) Tryd.func12 #[.string (a0 ++ a1)] ?_; (with_reducible refine (asm_Parse.calls k2 (a0 ++ a1) t642 t643 t644 _ ?side1 ?side2 ?side3 ?side4 A18.out).mono ?_); (case side1 => repeat (first | exact (Kd.C_below HRG0.out HB.out) | (with_reducible refine Kd.C_alloc ?_ _) | (with_reducible refine Kd.C_drewN ?_ _) | (with_reducible refine Kd.C_drew ?_))); (case side2 => repeat (first | exact (Kd.C_below HRG1.out HB.out) | (with_reducible refine Kd.C_alloc ?_ _) | (with_reducible refine Kd.C_drewN ?_ _) | (with_reducible refine Kd.C_drew ?_))); (case side3 => repeat (first | exact (Kd.C_below HRG2.out HB.out) | (with_reducible refine Kd.C_alloc ?_ _) | (with_reducible refine Kd.C_drewN ?_ _) | (with_reducible refine Kd.C_drew ?_))); (case side4 => repeat (first | exact (Kd.C_below HRG3.out HB.out) | (with_reducible refine Kd.C_alloc ?_ _) | (with_reducible refine Kd.C_drewN ?_ _) | (with_reducible refine Kd.C_drew ?_))); rintro e w31 ⟨v645, rfl, ho0, hb⟩; refine ⟨_, rfl, ?_⟩; have HO646 := Aside0.mk (Kd.R_lower (Kd.R_new' (Kd.R_new' ho0 (Kd.R_lt (by (with_reducible repeat (first | apply Kd.R_alloc | apply Kd.R_drewN | apply Kd.R_drew)); exact HO_5.out))) (Kd.R_lt (by (with_reducible repeat (first | apply Kd.R_alloc | apply Kd.R_drewN | apply Kd.R_drew)); exact HO_8.out))) (below_size b_now)); replace HO_5 := Aside0.mk (Kd.R_elder' (by (with_reducible repeat (first | apply Kd.R_alloc | apply Kd.R_drewN | apply Kd.R_drew)); exact HO_5.out) (Kd.R_base ho0) hb); replace HO_8 := Aside0.mk (Kd.R_elder' (by (with_reducible repeat (first | apply Kd.R_alloc | apply Kd.R_drewN | apply Kd.R_drew)); exact HO_8.out) (Kd.R_base ho0) hb); replace HB := sh_b (w := w) hb; (try clear hb); (try clear hb2); (try clear hk); (try clear hi); (try clear ho0); obtain ⟨Ao32, co32, eo32⟩ := Kd.R_slice HO646.out; subst eo32) | (go_at_call 8; (with_reducible refine (stockadelaw03_wakes.calls k2  t648 _ ?side1 ?side2 ?side3 ?side4 (by first | rfl | exact HRT.out) A30.out).mono ?_); (case side1 => repeat (first | exact (Kd.C_below HRG0.out HB.out) | (with_reducible refine Kd.C_alloc ?_ _) | (with_reducible refine Kd.C_drewN ?_ _) | (with_reducible refine Kd.C_drew ?_))); (case side2 => repeat (first | exact (Kd.C_below HRG1.out HB.out) | (with_reducible refine Kd.C_alloc ?_ _) | (with_reducible refine Kd.C_drewN ?_ _) | (with_reducible refine Kd.C_drew ?_))); (case side3 => repeat (first | exact (Kd.C_below HRG2.out HB.out) | (with_reducible refine Kd.C_alloc ?_ _) | (with_reducible refine Kd.C_drewN ?_ _) | (with_reducible refine Kd.C_drew ?_))); (case side4 => repeat (first | exact (Kd.C_below HRG3.out HB.out) | (with_reducible refine Kd.C_alloc ?_ _) | (with_reducible refine Kd.C_drewN ?_ _) | (with_reducible refine Kd.C_drew ?_))); rintro e w33 ⟨rfl, hb⟩; replace HO_5 := Aside0.mk (Kd.R_below (by (with_reducible repeat (first | apply Kd.R_alloc | apply Kd.R_drewN | apply Kd.R_drew)); exact HO_5.out) hb); replace HO_8 := Aside0.mk (Kd.R_below (by (with_reducible repeat (first | apply Kd.R_alloc | apply Kd.R_drewN | apply Kd.R_drew)); exact HO_8.out) hb); replace HO646 := Aside0.mk (Kd.R_below (by (with_reducible repeat (first | apply Kd.R_alloc | apply Kd.R_drewN | apply Kd.R_drew)); exact HO646.out) hb); replace HB := sh_b (w := w) hb; (try clear hb); (try clear hb2); (try clear hk); (try clear hi)))
                go_ret
                exact ⟨ret_now, b_now⟩
               ·rw [if_neg c29] at H
                have c29b0 : decide (t643 ≤ (wrap64 (x11_2 + t637))) = false := decide_eq_false c29
                clear c29
                obtain rfl := Option.some.inj H
                exact absurd HRT.out (by simp)
              ·rw [if_neg c28] at H
               obtain ⟨c28b0, c28b1⟩ := eqF c28
               obtain rfl := Option.some.inj H
               exact absurd HRT.out (by simp)
            ·rw [if_neg c22] at H
             obtain ⟨c22b0, c22b1⟩ := eqF c22
             by_cases c34 : t644 = 3
             ·rw [if_pos c34] at H
              obtain ⟨c34b0, c34b1⟩ := eqT c34
              clear c34
              by_cases c35 : t643 ≤ (wrap64 (x11_2 + t637))
              ·rw [if_pos c35] at H
               have c35b0 : decide (t643 ≤ (wrap64 (x11_2 + t637))) = true := decide_eq_true c35
               clear c35
               obtain ⟨t649, A36, H⟩ := bs_ H; try dsimp only at H
               obtain rfl := Option.some.inj H
               go_wp2_with (first | ((with_reducible refine gate_callee (f := 12) rfl ?_); refine sh_call (some 57) Tryd.func12 #[.string (a0 ++ a1)] ?_; (with_reducible refine (asm_Parse.calls k2 (a0 ++ a1) t642 t643 t644 _ ?side1 ?side2 ?side3 ?side4 A18.out).mono ?_); (case side1 => repeat (first | exact (Kd.C_below HRG0.out HB.out) | (with_reducible refine Kd.C_alloc ?_ _) | (with_reducible refine Kd.C_drewN ?_ _) | (with_reducible refine Kd.C_drew ?_))); (case side2 => repeat (first | exact (Kd.C_below HRG1.out HB.out) | (with_reducible refine Kd.C_alloc ?_ _) | (with_reducible refine Kd.C_drewN ?_ _) | (with_reducible refine Kd.C_drew ?_))); (case side3 => repeat (first | exact (Kd.C_below HRG2.out HB.out) | (with_reducible refine Kd.C_alloc ?_ _) | (with_reducible refine Kd.C_drewN ?_ _) | (with_reducible refine Kd.C_drew ?_))); (case side4 => repeat (first | exact (Kd.C_below HRG3.out HB.out) | (with_reducible refine Kd.C_alloc ?_ _) | (with_reducible refine Kd.C_drewN ?_ _) | (with_reducible refine Kd.C_drew ?_))); rintro e w37 ⟨v645, rfl, ho0, hb⟩; refine ⟨_, rfl, ?_⟩; have HO646 := Aside0.mk (Kd.R_lower (Kd.R_new' (Kd.R_new' ho0 (Kd.R_lt (by (with_reducible repeat (first | apply Kd.R_alloc | apply Kd.R_drewN | apply Kd.R_drew)); exact HO_5.out))) (Kd.R_lt (by (with_reducible repeat (first | apply Kd.R_alloc | apply Kd.R_drewN | apply Kd.R_drew)); exact HO_8.out))) (below_size b_now)); replace HO_5 := Aside0.mk (Kd.R_elder' (by (with_reducible repeat (first | apply Kd.R_alloc | apply Kd.R_drewN | apply Kd.R_drew)); exact HO_5.out) (Kd.R_base ho0) hb); replace HO_8 := Aside0.mk (Kd.R_elder' (by (with_reducible repeat (first | apply Kd.R_alloc | apply Kd.R_drewN | apply Kd.R_drew)); exact HO_8.out) (Kd.R_base ho0) hb); replace HB := sh_b (w := w) hb; (try clear hb); (try clear hb2); (try clear hk); (try clear hi); (try clear ho0); obtain ⟨Ao38, co38, eo38⟩ := Kd.R_slice HO646.out; subst eo38) | (go_at_call 8; (with_reducible refine (stockadelaw03_wakes.calls k2  t649 _ ?side1 ?side2 ?side3 ?side4 (by first | rfl | exact HRT.out) A36.out).mono ?_); (case side1 => repeat (first | exact (Kd.C_below HRG0.out HB.out) | (with_reducible refine Kd.C_alloc ?_ _) | (with_reducible refine Kd.C_drewN ?_ _) | (with_reducible refine Kd.C_drew ?_))); (case side2 => repeat (first | exact (Kd.C_below HRG1.out HB.out) | (with_reducible refine Kd.C_alloc ?_ _) | (with_reducible refine Kd.C_drewN ?_ _) | (with_reducible refine Kd.C_drew ?_))); (case side3 => repeat (first | exact (Kd.C_below HRG2.out HB.out) | (with_reducible refine Kd.C_alloc ?_ _) | (with_reducible refine Kd.C_drewN ?_ _) | (with_reducible refine Kd.C_drew ?_))); (case side4 => repeat (first | exact (Kd.C_below HRG3.out HB.out) | (with_reducible refine Kd.C_alloc ?_ _) | (with_reducible refine Kd.C_drewN ?_ _) | (with_reducible refine Kd.C_drew ?_))); rintro e w39 ⟨rfl, hb⟩; replace HO_5 := Aside0.mk (Kd.R_below (by (with_reducible repeat (first | apply Kd.R_alloc | apply Kd.R_drewN | apply Kd.R_drew)); exact HO_5.out) hb); replace HO_8 := Aside0.mk (Kd.R_below (by (with_reducible repeat (first | apply Kd.R_alloc | apply Kd.R_drewN | apply Kd.R_drew)); exact HO_8.out) hb); replace HO646 := Aside0.mk (Kd.R_below (by (with_reducible repeat (first | apply Kd.R_alloc | apply Kd.R_drewN | apply Kd.R_drew)); exact HO646.out) hb); replace HB := sh_b (w := w) hb; (try clear hb); (try clear hb2); (try clear hk); (try clear hi)))
               go_ret
               exact ⟨ret_now, b_now⟩
              ·rw [if_neg c35] at H
               have c35b0 : decide (t643 ≤ (wrap64 (x11_2 + t637))) = false := decide_eq_false c35
               clear c35
               obtain rfl := Option.some.inj H
               exact absurd HRT.out (by simp)
             ·rw [if_neg c34] at H
              obtain ⟨c34b0, c34b1⟩ := eqF c34
              obtain rfl := Option.some.inj H
              exact absurd HRT.out (by simp)
           ·rw [if_neg c21] at H
            obtain ⟨c21b0, c21b1⟩ := eqF c21
            have c21b2 : ¬ (t642 = []) := fun h_ => c21 (by rw [h_]; rfl)
            obtain rfl := Option.some.inj H
            exact absurd HRT.out (by simp)
         ·rw [if_neg c19] at H
          obtain ⟨c19b0, c19b1⟩ := eqF c19
          have HC40 := Aside0.mk H
          clear H
          go_upto_region 16 with (first | ((with_reducible refine gate_callee (f := 12) rfl ?_); refine sh_call (some 57) Tryd.func12 #[.string (a0 ++ a1)] ?_; (with_reducible refine (asm_Parse.calls k2 (a0 ++ a1) t642 t643 t644 _ ?side1 ?side2 ?side3 ?side4 A18.out).mono ?_); (case side1 => repeat (first | exact (Kd.C_below HRG0.out HB.out) | (with_reducible refine Kd.C_alloc ?_ _) | (with_reducible refine Kd.C_drewN ?_ _) | (with_reducible refine Kd.C_drew ?_))); (case side2 => repeat (first | exact (Kd.C_below HRG1.out HB.out) | (with_reducible refine Kd.C_alloc ?_ _) | (with_reducible refine Kd.C_drewN ?_ _) | (with_reducible refine Kd.C_drew ?_))); (case side3 => repeat (first | exact (Kd.C_below HRG2.out HB.out) | (with_reducible refine Kd.C_alloc ?_ _) | (with_reducible refine Kd.C_drewN ?_ _) | (with_reducible refine Kd.C_drew ?_))); (case side4 => repeat (first | exact (Kd.C_below HRG3.out HB.out) | (with_reducible refine Kd.C_alloc ?_ _) | (with_reducible refine Kd.C_drewN ?_ _) | (with_reducible refine Kd.C_drew ?_))); rintro e w41 ⟨v645, rfl, ho0, hb⟩; refine ⟨_, rfl, ?_⟩; have HO646 := Aside0.mk (Kd.R_lower (Kd.R_new' (Kd.R_new' ho0 (Kd.R_lt (by (with_reducible repeat (first | apply Kd.R_alloc | apply Kd.R_drewN | apply Kd.R_drew)); exact HO_5.out))) (Kd.R_lt (by (with_reducible repeat (first | apply Kd.R_alloc | apply Kd.R_drewN | apply Kd.R_drew)); exact HO_8.out))) (below_size b_now)); replace HO_5 := Aside0.mk (Kd.R_elder' (by (with_reducible repeat (first | apply Kd.R_alloc | apply Kd.R_drewN | apply Kd.R_drew)); exact HO_5.out) (Kd.R_base ho0) hb); replace HO_8 := Aside0.mk (Kd.R_elder' (by (with_reducible repeat (first | apply Kd.R_alloc | apply Kd.R_drewN | apply Kd.R_drew)); exact HO_8.out) (Kd.R_base ho0) hb); replace HB := sh_b (w := w) hb; (try clear hb); (try clear hb2); (try clear hk); (try clear hi); (try clear ho0)))
          (try simp only [Act.put, List.setIfInBounds_toArray, List.set_cons_zero, List.set_cons_succ])
          go_cut [104] (fun v104 wc => ∃ (kq : Nat) (x104_39 : Bool), v104 = .bool x104_39 ∧ Aside0 (stockadelaw03_AsmJoins.j2 kq t631 t636 x11_2 t642 t643 t644 x104_39 = some r) ∧ Aside0 (kq ≤ k2) ∧ Aside0 (Kd.R k37 37 wc w.heap.size (fun k_ => some k_ ≠ (v639 : Value).ownBlock ∧ some k_ ≠ (v645 : Value).ownBlock) v634 t631) ∧ Aside0 (Kd.R k37 37 wc w.heap.size (fun k_ => some k_ ≠ (v634 : Value).ownBlock ∧ some k_ ≠ (v645 : Value).ownBlock) v639 t636) ∧ Aside0 (Kd.R k37 37 wc w.heap.size (fun k_ => some k_ ≠ (v634 : Value).ownBlock ∧ some k_ ≠ (v639 : Value).ownBlock) v645 t642) ∧ Aside0 (Below w.heap.size w wc))
          case first =>
           have H := HC40.out
           clear HC40
           by_cases c42 : t638 = 0
           ·rw [if_pos c42] at H
            obtain ⟨c42b0, c42b1⟩ := eqT c42
            clear c42
            (first | rw [c42b0] | (simp only [i64_w, i32_w]; rw [c42b0]) | skip)
            have H' := Aside0.mk H
            clear H
            obtain ⟨Ao43, co43, eo43⟩ := Kd.R_slice HO_5.out
            subst eo43
            obtain ⟨Ao44, co44, eo44⟩ := Kd.R_slice HO_8.out
            subst eo44
            go_wp2
            go_meet
            case rel => exact ⟨_, (decide ((wrap64 ((t631.length : Int) + (t636.length : Int))) > 512)), eq_now, H', ⟨by have := HJ2.out; have := HK2.out; first | omega | exact Nat.le_refl _⟩, ⟨by (with_reducible repeat (first | apply Kd.R_alloc | apply Kd.R_drewN | apply Kd.R_drew)); exact HO_5.out⟩, ⟨by (with_reducible repeat (first | apply Kd.R_alloc | apply Kd.R_drewN | apply Kd.R_drew)); exact HO_8.out⟩, ⟨by (with_reducible repeat (first | apply Kd.R_alloc | apply Kd.R_drewN | apply Kd.R_drew)); exact Kd.R_mono HO646.out (fun _ hk => ⟨hk.1.2, hk.2⟩)⟩, ⟨b_now⟩⟩
           ·rw [if_neg c42] at H
            obtain ⟨c42b0, c42b1⟩ := eqF c42
            (first | rw [c42b0] | (simp only [i64_w, i32_w]; rw [c42b0]) | skip)
            have H' := Aside0.mk H
            clear H
            go_wp2
            go_meet
            case rel => exact ⟨_, (true), eq_now, H', ⟨by have := HJ2.out; have := HK2.out; first | omega | exact Nat.le_refl _⟩, ⟨by (with_reducible repeat (first | apply Kd.R_alloc | apply Kd.R_drewN | apply Kd.R_drew)); exact HO_5.out⟩, ⟨by (with_reducible repeat (first | apply Kd.R_alloc | apply Kd.R_drewN | apply Kd.R_drew)); exact HO_8.out⟩, ⟨by (with_reducible repeat (first | apply Kd.R_alloc | apply Kd.R_drewN | apply Kd.R_drew)); exact Kd.R_mono HO646.out (fun _ hk => ⟨hk.1.2, hk.2⟩)⟩, ⟨b_now⟩⟩
          case rest =>
           clear HC40
           clear c13b0 c17 c17b0 c17b1 c17b2 c19 c19b0 c19b1
           obtain ⟨kq, x104_39, rfl, HA, HJ39, HO_5, HO_8, HO_13, HB⟩ := hcut
           cases kq with
           | zero => exact absurd HA.out (by simp [stockadelaw03_AsmJoins.j2])
           | succ kj39 =>
            have H := HA.out
            clear HA
            simp only [stockadelaw03_AsmJoins.j2] at H
            by_cases c45 : x104_39 = true
            ·subst c45
             replace H := sh_t H
             by_cases c46 : t644 = 3
             ·rw [if_pos c46] at H
              obtain ⟨c46b0, c46b1⟩ := eqT c46
              clear c46
              by_cases c47 : t643 > x11_2
              ·rw [if_pos c47] at H
               have c47b0 : decide (x11_2 < t643) = true := decide_eq_true c47
               clear c47
               obtain ⟨t650, A48, H⟩ := bs_ H; try dsimp only at H
               obtain rfl := Option.some.inj H
               go_wp2_with (first | (go_at_call 8; (with_reducible refine (stockadelaw03_wakes.calls kj39  t650 _ ?side1 ?side2 ?side3 ?side4 (by first | rfl | exact HRT.out) A48.out).mono ?_); (case side1 => repeat (first | exact (Kd.C_below HRG0.out HB.out) | (with_reducible refine Kd.C_alloc ?_ _) | (with_reducible refine Kd.C_drewN ?_ _) | (with_reducible refine Kd.C_drew ?_))); (case side2 => repeat (first | exact (Kd.C_below HRG1.out HB.out) | (with_reducible refine Kd.C_alloc ?_ _) | (with_reducible refine Kd.C_drewN ?_ _) | (with_reducible refine Kd.C_drew ?_))); (case side3 => repeat (first | exact (Kd.C_below HRG2.out HB.out) | (with_reducible refine Kd.C_alloc ?_ _) | (with_reducible refine Kd.C_drewN ?_ _) | (with_reducible refine Kd.C_drew ?_))); (case side4 => repeat (first | exact (Kd.C_below HRG3.out HB.out) | (with_reducible refine Kd.C_alloc ?_ _) | (with_reducible refine Kd.C_drewN ?_ _) | (with_reducible refine Kd.C_drew ?_))); rintro e w49 ⟨rfl, hb⟩; replace HO_5 := Aside0.mk (Kd.R_below (by (with_reducible repeat (first | apply Kd.R_alloc | apply Kd.R_drewN | apply Kd.R_drew)); exact HO_5.out) hb); replace HO_8 := Aside0.mk (Kd.R_below (by (with_reducible repeat (first | apply Kd.R_alloc | apply Kd.R_drewN | apply Kd.R_drew)); exact HO_8.out) hb); replace HO_13 := Aside0.mk (Kd.R_below (by (with_reducible repeat (first | apply Kd.R_alloc | apply Kd.R_drewN | apply Kd.R_drew)); exact HO_13.out) hb); replace HB := sh_b (w := w) hb; (try clear hb); (try clear hb2); (try clear hk); (try clear hi)))
               go_ret
               exact ⟨ret_now, b_now⟩
              ·rw [if_neg c47] at H
               have c47b0 : decide (x11_2 < t643) = false := decide_eq_false c47
               clear c47
               obtain rfl := Option.some.inj H
               exact absurd HRT.out (by simp)
             ·rw [if_neg c46] at H
              obtain ⟨c46b0, c46b1⟩ := eqF c46
              obtain rfl := Option.some.inj H
              exact absurd HRT.out (by simp)
            ·replace c45 := Bool.eq_false_iff.mpr c45
             subst c45
             replace H := sh_f H
             by_cases c50 : ([] : List (S37)).length + t631.length < 11728124029610
             ·rw [if_pos c50] at H
              have LMc50 := Aside0.mk c50
              clear c50
              obtain ⟨y651, hy651⟩ : ∃ y_ : List (S37), y_ = (([] : List (S37)) ++ t631) := ⟨_, rfl⟩
              replace H : (if y651.length + t636.length < 11728124029610 then (if t644 = 0 then (if t643 = 0 then ((stockadelaw03_same.f kj39 t642 (y651 ++ t636)).bind fun t657 => (if t657 = true then ((stockadelaw03_wakes.f kj39).bind fun t658 => (some t658)) else (some false))) else (some false)) else (some false)) else (none)) = some r := by first | (rw [hy651]; with_reducible exact H) | (have H2_ := (Option.bind_some _ _).symm.trans H; rw [hy651]; with_reducible exact H2_) | (have H2_ := (Option.bind_some _ _).symm.trans H; with_reducible exact H2_) | with_reducible exact H | (rw [hy651]; exact H) | exact H
              have Ny651 := Aside0.mk hy651
              clear hy651
              by_cases c51 : y651.length + t636.length < 11728124029610
              ·rw [if_pos c51] at H
               have LMc51 := Aside0.mk c51
               clear c51
               obtain ⟨y654, hy654⟩ : ∃ y_ : List (S37), y_ = (y651 ++ t636) := ⟨_, rfl⟩
               replace H : (if t644 = 0 then (if t643 = 0 then ((stockadelaw03_same.f kj39 t642 y654).bind fun t657 => (if t657 = true then ((stockadelaw03_wakes.f kj39).bind fun t658 => (some t658)) else (some false))) else (some false)) else (some false)) = some r := by first | (rw [hy654]; with_reducible exact H) | (have H2_ := (Option.bind_some _ _).symm.trans H; rw [hy654]; with_reducible exact H2_) | (have H2_ := (Option.bind_some _ _).symm.trans H; with_reducible exact H2_) | with_reducible exact H | (rw [hy654]; exact H) | exact H
               have Ny654 := Aside0.mk hy654
               clear hy654
               by_cases c52 : t644 = 0
               ·rw [if_pos c52] at H
                obtain ⟨c52b0, c52b1⟩ := eqT c52
                clear c52
                by_cases c53 : t643 = 0
                ·rw [if_pos c53] at H
                 obtain ⟨c53b0, c53b1⟩ := eqT c53
                 clear c53
                 obtain ⟨t657, A54, H⟩ := bs_ H; try dsimp only at H
                 by_cases c55 : t657 = true
                 ·subst c55
                  replace H := sh_t H
                  obtain ⟨t658, A56, H⟩ := bs_ H; try dsimp only at H
                  obtain rfl := Option.some.inj H
                  obtain ⟨Ao58, co58, eo58⟩ := Kd.R_slice HO_5.out
                  subst eo58
                  go_wp2_with (first | ((with_reducible refine gate_builtin (b := .append) (xs := #[.const (.slice none 0 0), .tmp 115]) rfl ?_); (try (refine gate_guard (by rfl) ?_; dsimp only)); at_builtin; refine Kd.R_append_rows k37 (w0 := w) w.heap.size rfl (.const (.slice none 0 0)) (.tmp 115) 22 37 (.agg #[(.int .u8 0), (.int .u8 0), (.int .u8 0), (.int .i16 0), (.int .i32 0)]) 12 rfl Tryd.underlying22 info37 rfl (by decide) (by omega) (.slice none 0 0) ([] : List (S37)) t631 _ _ _ (fun k_ => some k_ ≠ (.slice Ao58 t631.length co58 : Value).ownBlock ∧ some k_ ≠ (v639 : Value).ownBlock ∧ some k_ ≠ (v645 : Value).ownBlock) (fun _ => False) rfl rfl ?aO ?aR (fun _ _ h => h) (fun _ h => h.elim) ?aF ?aB ?aS ?aL ?_; (case aR => repeat (first | exact (Kd.R_reads' HO_5.out).2.2 | (with_reducible refine Kd.C_alloc ?_ _) | (with_reducible refine Kd.C_drewN ?_ _) | (with_reducible refine Kd.C_drew ?_))); (case aB => exact b_now); (case aF => exact (fun k_ hk => ⟨Kd.fresh' (Kd.R_lt (by (with_reducible repeat (first | apply Kd.R_alloc | apply Kd.R_drewN | apply Kd.R_drew)); exact HO_5.out)) k_ hk, Kd.fresh' (Kd.R_lt (by (with_reducible repeat (first | apply Kd.R_alloc | apply Kd.R_drewN | apply Kd.R_drew)); exact HO_8.out)) k_ hk, Kd.fresh' (Kd.R_lt (by (with_reducible repeat (first | apply Kd.R_alloc | apply Kd.R_drewN | apply Kd.R_drew)); exact HO_13.out)) k_ hk⟩)); (case aO => exact ((Kd.R_nil _ _ _ _ (fun k_ => some k_ ≠ (.slice Ao58 t631.length co58 : Value).ownBlock ∧ some k_ ≠ (v639 : Value).ownBlock ∧ some k_ ≠ (v645 : Value).ownBlock)))); (case aS => exact (below_size b_now)); (case aL => have := LMc50.out; omega); intro v652 w57 ho hb hg hat; rw [← Ny651.out] at ho; have HO653 := Aside0.mk (ho); replace HO_5 := Aside0.mk (Kd.R_after (Kd.R_apart_nil (by (with_reducible repeat (first | apply Kd.R_alloc | apply Kd.R_drewN | apply Kd.R_drew)); exact HO_5.out)) hg hat); replace HO_8 := Aside0.mk (Kd.R_after (Kd.R_apart_nil (by (with_reducible repeat (first | apply Kd.R_alloc | apply Kd.R_drewN | apply Kd.R_drew)); exact HO_8.out)) hg hat); replace HO_13 := Aside0.mk (Kd.R_after (Kd.R_apart_nil (by (with_reducible repeat (first | apply Kd.R_alloc | apply Kd.R_drewN | apply Kd.R_drew)); exact HO_13.out)) hg hat); replace HB := Aside0.mk (hb); clear ho hb hg hat; obtain ⟨Ao60, co60, eo60⟩ := Kd.R_slice HO_8.out; subst eo60) | ((with_reducible refine gate_builtin (b := .append) (xs := #[.tmp 116, .tmp 117]) rfl ?_); (try (refine gate_guard (by rfl) ?_; dsimp only)); at_builtin; refine Kd.R_append_rows k37 (w0 := w) w.heap.size rfl (.tmp 116) (.tmp 117) 22 37 (.agg #[(.int .u8 0), (.int .u8 0), (.int .u8 0), (.int .i16 0), (.int .i32 0)]) 12 rfl Tryd.underlying22 info37 rfl (by decide) (by omega) v652 y651 t636 _ _ _ (fun k_ => some k_ ≠ (.slice Ao58 t631.length co58 : Value).ownBlock ∧ some k_ ≠ (.slice Ao60 t636.length co60 : Value).ownBlock ∧ some k_ ≠ (v645 : Value).ownBlock) (fun _ => False) rfl rfl ?aO ?aR (fun _ _ h => h) (fun _ h => h.elim) ?aF ?aB ?aS ?aL ?_; (case aR => repeat (first | exact (Kd.R_reads' HO_8.out).2.2 | (with_reducible refine Kd.C_alloc ?_ _) | (with_reducible refine Kd.C_drewN ?_ _) | (with_reducible refine Kd.C_drew ?_))); (case aB => exact b_now); (case aF => exact (fun k_ hk => ⟨Kd.fresh' (Kd.R_lt (by (with_reducible repeat (first | apply Kd.R_alloc | apply Kd.R_drewN | apply Kd.R_drew)); exact HO_5.out)) k_ hk, Kd.fresh' (Kd.R_lt (by (with_reducible repeat (first | apply Kd.R_alloc | apply Kd.R_drewN | apply Kd.R_drew)); exact HO_8.out)) k_ hk, Kd.fresh' (Kd.R_lt (by (with_reducible repeat (first | apply Kd.R_alloc | apply Kd.R_drewN | apply Kd.R_drew)); exact HO_13.out)) k_ hk⟩)); (case aO => exact (by (with_reducible repeat (first | apply Kd.R_alloc | apply Kd.R_drewN | apply Kd.R_drew)); exact HO653.out)); (case aS => exact (below_size b_now)); (case aL => have := LMc51.out; omega); intro v655 w59 ho hb hg hat; rw [← Ny654.out] at ho; have n0_ := Aside0.mk (Kd.R_after (ok := (fun k_ => some k_ ≠ (.slice Ao60 t636.length co60 : Value).ownBlock ∧ some k_ ≠ (v645 : Value).ownBlock)) (by (with_reducible repeat (first | apply Kd.R_alloc | apply Kd.R_drewN | apply Kd.R_drew)); exact HO_5.out) hg hat); have n1_ := Aside0.mk (Kd.R_after (ok := (fun k_ => some k_ ≠ (.slice Ao58 t631.length co58 : Value).ownBlock ∧ some k_ ≠ (v645 : Value).ownBlock)) (by (with_reducible repeat (first | apply Kd.R_alloc | apply Kd.R_drewN | apply Kd.R_drew)); exact HO_8.out) hg hat); have n2_ := Aside0.mk (Kd.R_after (ok := (fun k_ => some k_ ≠ (.slice Ao58 t631.length co58 : Value).ownBlock ∧ some k_ ≠ (.slice Ao60 t636.length co60 : Value).ownBlock)) (by (with_reducible repeat (first | apply Kd.R_alloc | apply Kd.R_drewN | apply Kd.R_drew)); exact HO_13.out) hg hat); have n3_ := Aside0.mk (hb); have n4_ := Aside0.mk (ho); clear HO_5; clear HO_8; clear HO_13; clear HB; clear HO653; have HO_5 := n0_; have HO_8 := n1_; have HO_13 := n2_; have HB := n3_; have HO656 := n4_; clear n0_ n1_ n2_ n3_ n4_; clear ho hb hg hat; obtain ⟨Ao61, co61, eo61⟩ := Kd.R_slice HO_13.out; subst eo61; obtain ⟨Ao62, co62, eo62⟩ := Kd.R_slice HO656.out; subst eo62) | (go_at_call 11; (with_reducible refine (stockadelaw03_same.calls kj39 _ _ t642 _ _ y654 true _ ?side1 ?side2 ?side3 ?side4 A54.out).mono ?_); (case side1 => repeat (first | exact (Kd.R_reads' HO_13.out).2.2 | (with_reducible refine Kd.C_alloc ?_ _) | (with_reducible refine Kd.C_drewN ?_ _) | (with_reducible refine Kd.C_drew ?_))); (case side2 => exact (Kd.R_reads' HO_13.out).2.1); (case side3 => repeat (first | exact (Kd.R_reads' HO656.out).2.2 | (with_reducible refine Kd.C_alloc ?_ _) | (with_reducible refine Kd.C_drewN ?_ _) | (with_reducible refine Kd.C_drew ?_))); (case side4 => exact (Kd.R_reads' HO656.out).2.1); rintro e w' ⟨rfl, ⟨nd, rfl⟩⟩) | (go_at_call 8; (with_reducible refine (stockadelaw03_wakes.calls kj39  t658 _ ?side1 ?side2 ?side3 ?side4 (by first | rfl | exact HRT.out) A56.out).mono ?_); (case side1 => repeat (first | exact (Kd.C_below HRG0.out b_now) | (with_reducible refine Kd.C_alloc ?_ _) | (with_reducible refine Kd.C_drewN ?_ _) | (with_reducible refine Kd.C_drew ?_))); (case side2 => repeat (first | exact (Kd.C_below HRG1.out b_now) | (with_reducible refine Kd.C_alloc ?_ _) | (with_reducible refine Kd.C_drewN ?_ _) | (with_reducible refine Kd.C_drew ?_))); (case side3 => repeat (first | exact (Kd.C_below HRG2.out b_now) | (with_reducible refine Kd.C_alloc ?_ _) | (with_reducible refine Kd.C_drewN ?_ _) | (with_reducible refine Kd.C_drew ?_))); (case side4 => repeat (first | exact (Kd.C_below HRG3.out b_now) | (with_reducible refine Kd.C_alloc ?_ _) | (with_reducible refine Kd.C_drewN ?_ _) | (with_reducible refine Kd.C_drew ?_))); rintro e w63 ⟨rfl, hb⟩; replace HO_5 := Aside0.mk (Kd.R_below (by (with_reducible repeat (first | apply Kd.R_alloc | apply Kd.R_drewN | apply Kd.R_drew)); exact HO_5.out) hb); replace HO_8 := Aside0.mk (Kd.R_below (by (with_reducible repeat (first | apply Kd.R_alloc | apply Kd.R_drewN | apply Kd.R_drew)); exact HO_8.out) hb); replace HO_13 := Aside0.mk (Kd.R_below (by (with_reducible repeat (first | apply Kd.R_alloc | apply Kd.R_drewN | apply Kd.R_drew)); exact HO_13.out) hb); replace HO656 := Aside0.mk (Kd.R_below (by (with_reducible repeat (first | apply Kd.R_alloc | apply Kd.R_drewN | apply Kd.R_drew)); exact HO656.out) hb); replace HB := sh_b (w := w) hb; (try clear hb); (try clear hb2); (try clear hk); (try clear hi)))
                  go_ret
                  exact ⟨ret_now, b_now⟩
                 ·replace c55 := Bool.eq_false_iff.mpr c55
                  subst c55
                  replace H := sh_f H
                  obtain rfl := Option.some.inj H
                  exact absurd HRT.out (by simp)
                ·rw [if_neg c53] at H
                 obtain ⟨c53b0, c53b1⟩ := eqF c53
                 obtain rfl := Option.some.inj H
                 exact absurd HRT.out (by simp)
               ·rw [if_neg c52] at H
                obtain ⟨c52b0, c52b1⟩ := eqF c52
                obtain rfl := Option.some.inj H
                exact absurd HRT.out (by simp)
              ·rw [if_neg c51] at H
               exact absurd H (by simp)
             ·rw [if_neg c50] at H
              exact absurd H (by simp)
        ·rw [if_neg c17] at H
         exact absurd H (by simp)
    ·rw [if_neg c10] at H
     obtain ⟨c10b0, c10b1⟩ := eqF c10
     obtain ⟨t641, A64, H⟩ := bs_ H; try dsimp only at H
     obtain rfl := Option.some.inj H
     go_wp2_with (first | ((with_reducible refine gate_callee (f := 12) rfl ?_); refine sh_call (some 28) Tryd.func12 #[.string a0] ?_; (with_reducible refine (asm_Parse.calls kj2 a0 t631 t632 t633 _ ?side1 ?side2 ?side3 ?side4 A8.out).mono ?_); (case side1 => repeat (first | exact (Kd.C_below HRG0.out HB.out) | (with_reducible refine Kd.C_alloc ?_ _) | (with_reducible refine Kd.C_drewN ?_ _) | (with_reducible refine Kd.C_drew ?_))); (case side2 => repeat (first | exact (Kd.C_below HRG1.out HB.out) | (with_reducible refine Kd.C_alloc ?_ _) | (with_reducible refine Kd.C_drewN ?_ _) | (with_reducible refine Kd.C_drew ?_))); (case side3 => repeat (first | exact (Kd.C_below HRG2.out HB.out) | (with_reducible refine Kd.C_alloc ?_ _) | (with_reducible refine Kd.C_drewN ?_ _) | (with_reducible refine Kd.C_drew ?_))); (case side4 => repeat (first | exact (Kd.C_below HRG3.out HB.out) | (with_reducible refine Kd.C_alloc ?_ _) | (with_reducible refine Kd.C_drewN ?_ _) | (with_reducible refine Kd.C_drew ?_))); rintro e w65 ⟨v634, rfl, ho0, hb⟩; refine ⟨_, rfl, ?_⟩; have HO635 := Aside0.mk (Kd.R_lower ho0 (below_size b_now)); replace HB := sh_b (w := w) hb; (try clear hb); (try clear hb2); (try clear hk); (try clear hi); (try clear ho0)) | ((with_reducible refine gate_callee (f := 12) rfl ?_); refine sh_call (some 34) Tryd.func12 #[.string a1] ?_; (with_reducible refine (asm_Parse.calls kj2 a1 t636 t637 t638 _ ?side1 ?side2 ?side3 ?side4 A9.out).mono ?_); (case side1 => repeat (first | exact (Kd.C_below HRG0.out HB.out) | (with_reducible refine Kd.C_alloc ?_ _) | (with_reducible refine Kd.C_drewN ?_ _) | (with_reducible refine Kd.C_drew ?_))); (case side2 => repeat (first | exact (Kd.C_below HRG1.out HB.out) | (with_reducible refine Kd.C_alloc ?_ _) | (with_reducible refine Kd.C_drewN ?_ _) | (with_reducible refine Kd.C_drew ?_))); (case side3 => repeat (first | exact (Kd.C_below HRG2.out HB.out) | (with_reducible refine Kd.C_alloc ?_ _) | (with_reducible refine Kd.C_drewN ?_ _) | (with_reducible refine Kd.C_drew ?_))); (case side4 => repeat (first | exact (Kd.C_below HRG3.out HB.out) | (with_reducible refine Kd.C_alloc ?_ _) | (with_reducible refine Kd.C_drewN ?_ _) | (with_reducible refine Kd.C_drew ?_))); rintro e w66 ⟨v639, rfl, ho0, hb⟩; refine ⟨_, rfl, ?_⟩; have HO640 := Aside0.mk (Kd.R_lower (Kd.R_new' ho0 (Kd.R_lt (by (with_reducible repeat (first | apply Kd.R_alloc | apply Kd.R_drewN | apply Kd.R_drew)); exact HO635.out))) (below_size b_now)); replace HO635 := Aside0.mk (Kd.R_elder' (by (with_reducible repeat (first | apply Kd.R_alloc | apply Kd.R_drewN | apply Kd.R_drew)); exact HO635.out) (Kd.R_base ho0) hb); replace HB := sh_b (w := w) hb; (try clear hb); (try clear hb2); (try clear hk); (try clear hi); (try clear ho0)) | ((with_reducible refine gate_callee (f := 8) rfl ?_); refine sh_call (some 40) Tryd.func8 #[] ?_; (with_reducible refine (stockadelaw03_wakes.calls kj2  t641 _ ?side1 ?side2 ?side3 ?side4 (by first | rfl | exact HRT.out) A64.out).mono ?_); (case side1 => repeat (first | exact (Kd.C_below HRG0.out HB.out) | (with_reducible refine Kd.C_alloc ?_ _) | (with_reducible refine Kd.C_drewN ?_ _) | (with_reducible refine Kd.C_drew ?_))); (case side2 => repeat (first | exact (Kd.C_below HRG1.out HB.out) | (with_reducible refine Kd.C_alloc ?_ _) | (with_reducible refine Kd.C_drewN ?_ _) | (with_reducible refine Kd.C_drew ?_))); (case side3 => repeat (first | exact (Kd.C_below HRG2.out HB.out) | (with_reducible refine Kd.C_alloc ?_ _) | (with_reducible refine Kd.C_drewN ?_ _) | (with_reducible refine Kd.C_drew ?_))); (case side4 => repeat (first | exact (Kd.C_below HRG3.out HB.out) | (with_reducible refine Kd.C_alloc ?_ _) | (with_reducible refine Kd.C_drewN ?_ _) | (with_reducible refine Kd.C_drew ?_))); rintro e w67 ⟨rfl, hb⟩; refine ⟨_, rfl, ?_⟩; replace HO635 := Aside0.mk (Kd.R_below (by (with_reducible repeat (first | apply Kd.R_alloc | apply Kd.R_drewN | apply Kd.R_drew)); exact HO635.out) hb); replace HO640 := Aside0.mk (Kd.R_below (by (with_reducible repeat (first | apply Kd.R_alloc | apply Kd.R_drewN | apply Kd.R_drew)); exact HO640.out) hb); replace HB := sh_b (w := w) hb; (try clear hb); (try clear hb2); (try clear hk); (try clear hi)))
     go_ret
     exact ⟨ret_now, b_now⟩

end Go.Proofs.YtondogoepcndiaaDoor.P
