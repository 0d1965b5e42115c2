/- Made by this session's driver over the kit's printer: for each Go function a Lean function with the same answers, and a proof that the Go call comes to these answers; no conditions but the ones each theorem names. -/
import Derived.Test.YtdhiibkcoolbeaaDoorPx0
import Derived.Test.YtdhiibkcoolbeaaDoorPx1
import Derived.Test.YtdhiibkcoolbeaaDoorPx7
namespace Go.Proofs.YtdhiibkcoolbeaaDoor.P
open Go.RowKit Go.Proofs.YtdhiibkcoolbeaaDoorW.PrintWords Go.Proofs.YtdhiibkcoolbeaaDoorW.PrintLast Go.Proofs.YtdhiibkcoolbeaaDoorW.PrintMore
attribute [local go_sem] max2_int min2_int max_two min_two max_three min_three max_four min_four   -- for this text's walks alone
set_option linter.unusedVariables false
set_option linter.unusedSimpArgs false

attribute [local go_sem high] eqA40
/-! ### shape_Target: function 19 -/
def shape_Target.f (a0 : Int) (a1_0 : Int) (a1_1 : Int) (a1_2 : Int) (a1_3 : Int) (a1_4 : Int) : Option (Int) := some (wrap64 ((wrap64 (a0 + 1)) + (wrap64 (a1_3))))
set_option maxHeartbeats 8000000 in
set_option maxRecDepth 100000 in
theorem shape_Target.calls (a0 : Int) (a1_0 : Int) (a1_1 : Int) (a1_2 : Int) (a1_3 : Int) (a1_4 : Int) (r : Int) (w : World) (h : shape_Target.f a0 a1_0 a1_1 a1_2 a1_3 a1_4 = some r) :
  Calls Tryd.prog 19 #[.int .i64 a0, .agg #[.int .u8 a1_0, .int .u8 a1_1, .int .u8 a1_2, .int .i16 a1_3, .int .i32 a1_4]] w fun e w' => e = .returned (.int .i64 r) ∧ Below w.heap.size w w' := by
 have hu40 := Tryd.underlying40
 have HB := Aside0.mk (Below.refl w.heap.size w)
 have H : (some (wrap64 ((wrap64 (a0 + 1)) + (wrap64 (a1_3))))) = some r := h
 clear h
 obtain rfl := Option.some.inj H
 go_enter Tryd.func19, Tryd.ntmps19
 go_wp2_with (first | ((with_reducible refine gate_dst (N := 3) rfl ?_); refine sh_box 3 #[.int .u8 a1_0, .int .u8 a1_1, .int .u8 a1_2, .int .i16 a1_3, .int .i32 a1_4] 40 ?_; intro gb163 hg w3 hbox hb; have GE163 := sh_z (w := w) hg; replace HB := sh_b (w := w) hb; have BK163 := Aside0.mk (hbox); clear hb hbox hg; have hcz4 := blk_all5 BK163.out))
 go_ret
 exact ⟨ret_now, b_now⟩

/-! ### shape_may: function 25 -/
def shape_may.f (a0_0 : Int) (a0_1 : Int) (a0_2 : Int) (a0_3 : Int) : Option (Bool) := if a0_0 < 1 then (some false) else (if a0_0 > 3 then (some false) else (if a0_1 < 1 then (some false) else (if a0_1 > 16 then (some false) else (if a0_0 = 1 then (if a0_1 = 4 then (if a0_2 ≥ 1 then (if a0_2 ≤ 64 then (if a0_3 ≥ 1 then (some (decide (a0_3 ≤ 64))) else (some false)) else (some false)) else (some false)) else (some false)) else (if a0_2 ≥ 1 then (if a0_2 ≤ 64 then (if a0_3 ≥ 1 then (some (decide (a0_3 ≤ 64))) else (some false)) else (some false)) else (some false))))))
set_option maxHeartbeats 8000000 in
set_option maxRecDepth 100000 in
theorem shape_may.calls (a0_0 : Int) (a0_1 : Int) (a0_2 : Int) (a0_3 : Int) (r : Bool) (w : World) (h : shape_may.f a0_0 a0_1 a0_2 a0_3 = some r) :
  Calls Tryd.prog 25 #[.agg #[.int .i64 a0_0, .int .i64 a0_1, .int .i64 a0_2, .int .i64 a0_3]] w fun e w' => e = .returned (.bool r) ∧ Below w.heap.size w w' := by
 have hu52 := Tryd.underlying52
 have HB := Aside0.mk (Below.refl w.heap.size w)
 have H : (if a0_0 < 1 then (some false) else (if a0_0 > 3 then (some false) else (if a0_1 < 1 then (some false) else (if a0_1 > 16 then (some false) else (if a0_0 = 1 then (if a0_1 = 4 then (if a0_2 ≥ 1 then (if a0_2 ≤ 64 then (if a0_3 ≥ 1 then (some (decide (a0_3 ≤ 64))) else (some false)) else (some false)) else (some false)) else (some false)) else (if a0_2 ≥ 1 then (if a0_2 ≤ 64 then (if a0_3 ≥ 1 then (some (decide (a0_3 ≤ 64))) else (some false)) else (some false)) else (some false))))))) = some r := h
 clear h
 by_cases c2 : a0_0 < 1
 ·rw [if_pos c2] at H
  have c2b0 : decide (a0_0 < 1) = true := decide_eq_true c2
  clear c2
  obtain rfl := Option.some.inj H
  go_enter Tryd.func25, Tryd.ntmps25
  go_wp2_with (first | ((with_reducible refine gate_dst (N := 1) rfl ?_); refine sh_box 1 #[.int .i64 a0_0, .int .i64 a0_1, .int .i64 a0_2, .int .i64 a0_3] 52 ?_; intro gb164 hg w3 hbox hb; have GE164 := sh_z (w := w) hg; replace HB := sh_b (w := w) hb; have BK164 := Aside0.mk (hbox); clear hb hbox hg; have hcz4 := blk_all4 BK164.out))
  go_ret
  exact ⟨ret_now, b_now⟩
 ·rw [if_neg c2] at H
  have c2b0 : decide (a0_0 < 1) = false := decide_eq_false c2
  clear c2
  by_cases c5 : a0_0 > 3
  ·rw [if_pos c5] at H
   have c5b0 : decide (3 < a0_0) = true := decide_eq_true c5
   clear c5
   obtain rfl := Option.some.inj H
   go_enter Tryd.func25, Tryd.ntmps25
   go_wp2_with (first | ((with_reducible refine gate_dst (N := 1) rfl ?_); refine sh_box 1 #[.int .i64 a0_0, .int .i64 a0_1, .int .i64 a0_2, .int .i64 a0_3] 52 ?_; intro gb164 hg w6 hbox hb; have GE164 := sh_z (w := w) hg; replace HB := sh_b (w := w) hb; have BK164 := Aside0.mk (hbox); clear hb hbox hg; have hcz7 := blk_all4 BK164.out))
   go_ret
   exact ⟨ret_now, b_now⟩
  ·rw [if_neg c5] at H
   have c5b0 : decide (3 < a0_0) = false := decide_eq_false c5
   clear c5
   by_cases c8 : a0_1 < 1
   ·rw [if_pos c8] at H
    have c8b0 : decide (a0_1 < 1) = true := decide_eq_true c8
    clear c8
    obtain rfl := Option.some.inj H
    go_enter Tryd.func25, Tryd.ntmps25
    go_wp2_with (first | ((with_reducible refine gate_dst (N := 1) rfl ?_); refine sh_box 1 #[.int .i64 a0_0, .int .i64 a0_1, .int .i64 a0_2, .int .i64 a0_3] 52 ?_; intro gb164 hg w9 hbox hb; have GE164 := sh_z (w := w) hg; replace HB := sh_b (w := w) hb; have BK164 := Aside0.mk (hbox); clear hb hbox hg; have hcz10 := blk_all4 BK164.out))
    go_ret
    exact ⟨ret_now, b_now⟩
   ·rw [if_neg c8] at H
    have c8b0 : decide (a0_1 < 1) = false := decide_eq_false c8
    clear c8
    by_cases c11 : a0_1 > 16
    ·rw [if_pos c11] at H
     have c11b0 : decide (16 < a0_1) = true := decide_eq_true c11
     clear c11
     obtain rfl := Option.some.inj H
     go_enter Tryd.func25, Tryd.ntmps25
     go_wp2_with (first | ((with_reducible refine gate_dst (N := 1) rfl ?_); refine sh_box 1 #[.int .i64 a0_0, .int .i64 a0_1, .int .i64 a0_2, .int .i64 a0_3] 52 ?_; intro gb164 hg w12 hbox hb; have GE164 := sh_z (w := w) hg; replace HB := sh_b (w := w) hb; have BK164 := Aside0.mk (hbox); clear hb hbox hg; have hcz13 := blk_all4 BK164.out))
     go_ret
     exact ⟨ret_now, b_now⟩
    ·rw [if_neg c11] at H
     have c11b0 : decide (16 < a0_1) = false := decide_eq_false c11
     clear c11
     by_cases c14 : a0_0 = 1
     ·rw [if_pos c14] at H
      have c14b0 : (a0_0 == 1) = true := beq_iff_eq.mpr c14
      have c14b1 : (a0_0 != 1) = false := bne_eq_false_iff_eq.mpr c14
      clear c14
      by_cases c15 : a0_1 = 4
      ·rw [if_pos c15] at H
       have c15b0 : (a0_1 == 4) = true := beq_iff_eq.mpr c15
       have c15b1 : (a0_1 != 4) = false := bne_eq_false_iff_eq.mpr c15
       clear c15
       by_cases c16 : a0_2 ≥ 1
       ·rw [if_pos c16] at H
        have c16b0 : decide (1 ≤ a0_2) = true := decide_eq_true c16
        clear c16
        by_cases c17 : a0_2 ≤ 64
        ·rw [if_pos c17] at H
         have c17b0 : decide (a0_2 ≤ 64) = true := decide_eq_true c17
         clear c17
         by_cases c18 : a0_3 ≥ 1
         ·rw [if_pos c18] at H
          have c18b0 : decide (1 ≤ a0_3) = true := decide_eq_true c18
          clear c18
          obtain rfl := Option.some.inj H
          go_enter Tryd.func25, Tryd.ntmps25
          go_wp2_with (first | ((with_reducible refine gate_dst (N := 1) rfl ?_); refine sh_box 1 #[.int .i64 a0_0, .int .i64 a0_1, .int .i64 a0_2, .int .i64 a0_3] 52 ?_; intro gb164 hg w19 hbox hb; have GE164 := sh_z (w := w) hg; replace HB := sh_b (w := w) hb; have BK164 := Aside0.mk (hbox); clear hb hbox hg; have hcz20 := blk_all4 BK164.out))
          go_ret
          exact ⟨ret_now, b_now⟩
         ·rw [if_neg c18] at H
          have c18b0 : decide (1 ≤ a0_3) = false := decide_eq_false c18
          clear c18
          obtain rfl := Option.some.inj H
          go_enter Tryd.func25, Tryd.ntmps25
          go_wp2_with (first | ((with_reducible refine gate_dst (N := 1) rfl ?_); refine sh_box 1 #[.int .i64 a0_0, .int .i64 a0_1, .int .i64 a0_2, .int .i64 a0_3] 52 ?_; intro gb164 hg w21 hbox hb; have GE164 := sh_z (w := w) hg; replace HB := sh_b (w := w) hb; have BK164 := Aside0.mk (hbox); clear hb hbox hg; have hcz22 := blk_all4 BK164.out))
          go_ret
          exact ⟨ret_now, b_now⟩
        ·rw [if_neg c17] at H
         have c17b0 : decide (a0_2 ≤ 64) = false := decide_eq_false c17
         clear c17
         obtain rfl := Option.some.inj H
         go_enter Tryd.func25, Tryd.ntmps25
         go_wp2_with (first | ((with_reducible refine gate_dst (N := 1) rfl ?_); refine sh_box 1 #[.int .i64 a0_0, .int .i64 a0_1, .int .i64 a0_2, .int .i64 a0_3] 52 ?_; intro gb164 hg w23 hbox hb; have GE164 := sh_z (w := w) hg; replace HB := sh_b (w := w) hb; have BK164 := Aside0.mk (hbox); clear hb hbox hg; have hcz24 := blk_all4 BK164.out))
         go_ret
         exact ⟨ret_now, b_now⟩
       ·rw [if_neg c16] at H
        have c16b0 : decide (1 ≤ a0_2) = false := decide_eq_false c16
        clear c16
        obtain rfl := Option.some.inj H
        go_enter Tryd.func25, Tryd.ntmps25
        go_wp2_with (first | ((with_reducible refine gate_dst (N := 1) rfl ?_); refine sh_box 1 #[.int .i64 a0_0, .int .i64 a0_1, .int .i64 a0_2, .int .i64 a0_3] 52 ?_; intro gb164 hg w25 hbox hb; have GE164 := sh_z (w := w) hg; replace HB := sh_b (w := w) hb; have BK164 := Aside0.mk (hbox); clear hb hbox hg; have hcz26 := blk_all4 BK164.out))
        go_ret
        exact ⟨ret_now, b_now⟩
      ·rw [if_neg c15] at H
       have c15b0 : (a0_1 == 4) = false := beq_eq_false_iff_ne.mpr c15
       have c15b1 : (a0_1 != 4) = true := bne_iff_ne.mpr c15
       obtain rfl := Option.some.inj H
       go_enter Tryd.func25, Tryd.ntmps25
       go_wp2_with (first | ((with_reducible refine gate_dst (N := 1) rfl ?_); refine sh_box 1 #[.int .i64 a0_0, .int .i64 a0_1, .int .i64 a0_2, .int .i64 a0_3] 52 ?_; intro gb164 hg w27 hbox hb; have GE164 := sh_z (w := w) hg; replace HB := sh_b (w := w) hb; have BK164 := Aside0.mk (hbox); clear hb hbox hg; have hcz28 := blk_all4 BK164.out))
       go_ret
       exact ⟨ret_now, b_now⟩
     ·rw [if_neg c14] at H
      have c14b0 : (a0_0 == 1) = false := beq_eq_false_iff_ne.mpr c14
      have c14b1 : (a0_0 != 1) = true := bne_iff_ne.mpr c14
      by_cases c29 : a0_2 ≥ 1
      ·rw [if_pos c29] at H
       have c29b0 : decide (1 ≤ a0_2) = true := decide_eq_true c29
       clear c29
       by_cases c30 : a0_2 ≤ 64
       ·rw [if_pos c30] at H
        have c30b0 : decide (a0_2 ≤ 64) = true := decide_eq_true c30
        clear c30
        by_cases c31 : a0_3 ≥ 1
        ·rw [if_pos c31] at H
         have c31b0 : decide (1 ≤ a0_3) = true := decide_eq_true c31
         clear c31
         obtain rfl := Option.some.inj H
         go_enter Tryd.func25, Tryd.ntmps25
         go_wp2_with (first | ((with_reducible refine gate_dst (N := 1) rfl ?_); refine sh_box 1 #[.int .i64 a0_0, .int .i64 a0_1, .int .i64 a0_2, .int .i64 a0_3] 52 ?_; intro gb164 hg w32 hbox hb; have GE164 := sh_z (w := w) hg; replace HB := sh_b (w := w) hb; have BK164 := Aside0.mk (hbox); clear hb hbox hg; have hcz33 := blk_all4 BK164.out))
         go_ret
         exact ⟨ret_now, b_now⟩
        ·rw [if_neg c31] at H
         have c31b0 : decide (1 ≤ a0_3) = false := decide_eq_false c31
         clear c31
         obtain rfl := Option.some.inj H
         go_enter Tryd.func25, Tryd.ntmps25
         go_wp2_with (first | ((with_reducible refine gate_dst (N := 1) rfl ?_); refine sh_box 1 #[.int .i64 a0_0, .int .i64 a0_1, .int .i64 a0_2, .int .i64 a0_3] 52 ?_; intro gb164 hg w34 hbox hb; have GE164 := sh_z (w := w) hg; replace HB := sh_b (w := w) hb; have BK164 := Aside0.mk (hbox); clear hb hbox hg; have hcz35 := blk_all4 BK164.out))
         go_ret
         exact ⟨ret_now, b_now⟩
       ·rw [if_neg c30] at H
        have c30b0 : decide (a0_2 ≤ 64) = false := decide_eq_false c30
        clear c30
        obtain rfl := Option.some.inj H
        go_enter Tryd.func25, Tryd.ntmps25
        go_wp2_with (first | ((with_reducible refine gate_dst (N := 1) rfl ?_); refine sh_box 1 #[.int .i64 a0_0, .int .i64 a0_1, .int .i64 a0_2, .int .i64 a0_3] 52 ?_; intro gb164 hg w36 hbox hb; have GE164 := sh_z (w := w) hg; replace HB := sh_b (w := w) hb; have BK164 := Aside0.mk (hbox); clear hb hbox hg; have hcz37 := blk_all4 BK164.out))
        go_ret
        exact ⟨ret_now, b_now⟩
      ·rw [if_neg c29] at H
       have c29b0 : decide (1 ≤ a0_2) = false := decide_eq_false c29
       clear c29
       obtain rfl := Option.some.inj H
       go_enter Tryd.func25, Tryd.ntmps25
       go_wp2_with (first | ((with_reducible refine gate_dst (N := 1) rfl ?_); refine sh_box 1 #[.int .i64 a0_0, .int .i64 a0_1, .int .i64 a0_2, .int .i64 a0_3] 52 ?_; intro gb164 hg w38 hbox hb; have GE164 := sh_z (w := w) hg; replace HB := sh_b (w := w) hb; have BK164 := Aside0.mk (hbox); clear hb hbox hg; have hcz39 := blk_all4 BK164.out))
       go_ret
       exact ⟨ret_now, b_now⟩

/-! ### shape_Helper: function 17 -/
def shape_Helper.f (a0 : Int) : Option (Bool) := if a0 = 1 then (some true) else (if a0 = 2 then (some true) else (if a0 = 3 then (some true) else (if a0 = 5 then (some true) else (if a0 = 7 then (some true) else (some false)))))
set_option maxHeartbeats 8000000 in
set_option maxRecDepth 100000 in
theorem shape_Helper.calls (a0 : Int) (r : Bool) (w : World) (h : shape_Helper.f a0 = some r) :
  Calls Tryd.prog 17 #[.int .i32 a0] w fun e w' => e = .returned (.bool r) ∧ Drawn0 w w' := by
 have H : (if a0 = 1 then (some true) else (if a0 = 2 then (some true) else (if a0 = 3 then (some true) else (if a0 = 5 then (some true) else (if a0 = 7 then (some true) else (some false)))))) = some r := h
 clear h
 by_cases c2 : a0 = 1
 ·rw [if_pos c2] at H
  have c2b0 : (a0 == 1) = true := beq_iff_eq.mpr c2
  have c2b1 : (a0 != 1) = false := bne_eq_false_iff_eq.mpr c2
  clear c2
  obtain rfl := Option.some.inj H
  go_enter Tryd.func17, Tryd.ntmps17
  go_wp2
  go_ret
  exact ⟨by first | rfl | (simp; done) | (simp [*]; done), by repeat (first | exact Drawn0.refl _ | apply Drawn0.step)⟩
 ·rw [if_neg c2] at H
  have c2b0 : (a0 == 1) = false := beq_eq_false_iff_ne.mpr c2
  have c2b1 : (a0 != 1) = true := bne_iff_ne.mpr c2
  by_cases c3 : a0 = 2
  ·rw [if_pos c3] at H
   have c3b0 : (a0 == 2) = true := beq_iff_eq.mpr c3
   have c3b1 : (a0 != 2) = false := bne_eq_false_iff_eq.mpr c3
   clear c3
   obtain rfl := Option.some.inj H
   go_enter Tryd.func17, Tryd.ntmps17
   go_wp2
   go_ret
   exact ⟨by first | rfl | (simp; done) | (simp [*]; done), by repeat (first | exact Drawn0.refl _ | apply Drawn0.step)⟩
  ·rw [if_neg c3] at H
   have c3b0 : (a0 == 2) = false := beq_eq_false_iff_ne.mpr c3
   have c3b1 : (a0 != 2) = true := bne_iff_ne.mpr c3
   by_cases c4 : a0 = 3
   ·rw [if_pos c4] at H
    have c4b0 : (a0 == 3) = true := beq_iff_eq.mpr c4
    have c4b1 : (a0 != 3) = false := bne_eq_false_iff_eq.mpr c4
    clear c4
    obtain rfl := Option.some.inj H
    go_enter Tryd.func17, Tryd.ntmps17
    go_wp2
    go_ret
    exact ⟨by first | rfl | (simp; done) | (simp [*]; done), by repeat (first | exact Drawn0.refl _ | apply Drawn0.step)⟩
   ·rw [if_neg c4] at H
    have c4b0 : (a0 == 3) = false := beq_eq_false_iff_ne.mpr c4
    have c4b1 : (a0 != 3) = true := bne_iff_ne.mpr c4
    by_cases c5 : a0 = 5
    ·rw [if_pos c5] at H
     have c5b0 : (a0 == 5) = true := beq_iff_eq.mpr c5
     have c5b1 : (a0 != 5) = false := bne_eq_false_iff_eq.mpr c5
     clear c5
     obtain rfl := Option.some.inj H
     go_enter Tryd.func17, Tryd.ntmps17
     go_wp2
     go_ret
     exact ⟨by first | rfl | (simp; done) | (simp [*]; done), by repeat (first | exact Drawn0.refl _ | apply Drawn0.step)⟩
    ·rw [if_neg c5] at H
     have c5b0 : (a0 == 5) = false := beq_eq_false_iff_ne.mpr c5
     have c5b1 : (a0 != 5) = true := bne_iff_ne.mpr c5
     by_cases c6 : a0 = 7
     ·rw [if_pos c6] at H
      have c6b0 : (a0 == 7) = true := beq_iff_eq.mpr c6
      have c6b1 : (a0 != 7) = false := bne_eq_false_iff_eq.mpr c6
      clear c6
      obtain rfl := Option.some.inj H
      go_enter Tryd.func17, Tryd.ntmps17
      go_wp2
      go_ret
      exact ⟨by first | rfl | (simp; done) | (simp [*]; done), by repeat (first | exact Drawn0.refl _ | apply Drawn0.step)⟩
     ·rw [if_neg c6] at H
      have c6b0 : (a0 == 7) = false := beq_eq_false_iff_ne.mpr c6
      have c6b1 : (a0 != 7) = true := bne_iff_ne.mpr c6
      obtain rfl := Option.some.inj H
      go_enter Tryd.func17, Tryd.ntmps17
      go_wp2
      go_ret
      exact ⟨by first | rfl | (simp; done) | (simp [*]; done), by repeat (first | exact Drawn0.refl _ | apply Drawn0.step)⟩

/-! ### shape_alone: function 27 -/
mutual
def shape_alone.j0 : Nat → Int → Int → Bool → List (S52) → List (S40) → Int → Int → Int → Int → Int → Int → Int → Int → Bool → Bool → Option (Int × Int × Int × Bool × Bool × Int)
 | 0, _, _, _, _, _, _, _, _, _, _, _, _, _, _, _ => none
 | k + 1, x1, x25, x26, x166000, x166001, x169000, x169001, x169002, x169003, x169004, x176000, x176001, x176002, x176003, x176004 => if x26 = true then (if (wrap64 (x1 + 1)) = (x166001.length : Int) then (some (x176000, x176001, x176002, x176003, x176004, 23)) else (if 0 ≤ (wrap64 (x1 + 1)) then (if (wrap64 (x1 + 1)) < (x166001.length : Int) then (if x176000 = 10 then (shape_alone.j1 k x166000 x166001 x169000 x169001 x169002 x169003 x169004 x176000 x176001 x176002 x176003 x176004 ((rd_T40 x166001 (wrap64 (x1 + 1))).f0) ((rd_T40 x166001 (wrap64 (x1 + 1))).f1) ((rd_T40 x166001 (wrap64 (x1 + 1))).f2) ((rd_T40 x166001 (wrap64 (x1 + 1))).f3) 0) else (shape_alone.j1 k x166000 x166001 x169000 x169001 x169002 x169003 x169004 x176000 x176001 x176002 x176003 x176004 ((rd_T40 x166001 (wrap64 (x1 + 1))).f0) ((rd_T40 x166001 (wrap64 (x1 + 1))).f1) ((rd_T40 x166001 (wrap64 (x1 + 1))).f2) ((rd_T40 x166001 (wrap64 (x1 + 1))).f3) ((rd_T40 x166001 (wrap64 (x1 + 1))).f4))) else (none)) else (none))) else (if x25 = 8 then ((shape_Helper.f x169004).bind fun t178 => (if t178 = true then (some (x176000, x176001, x176002, x176003, x176004, 0)) else (some (x176000, x176001, x176002, x176003, x176004, 27)))) else (some (x176000, x176001, x176002, x176003, x176004, 0)))
def shape_alone.j1 : Nat → List (S52) → List (S40) → Int → Int → Int → Int → Int → Int → Int → Int → Bool → Bool → Int → Int → Int → Int → Int → Option (Int × Int × Int × Bool × Bool × Int)
 | 0, _, _, _, _, _, _, _, _, _, _, _, _, _, _, _, _, _ => none
 | k + 1, x166000, x166001, x169000, x169001, x169002, x169003, x169004, x176000, x176001, x176002, x176003, x176004, x178000, x178001, x178002, x178003, x178004 => if (!(x178000 == 0) || (!(x178001 == 0) || (!(x178002 == 0) || (!(x178003 == 0) || (!(x178004 == 0)))))) = true then (some (x176000, x176001, x176002, x176003, x176004, 23)) else (if x176000 = 11 then (if x169004 < 0 then (some (x176000, x176001, x176002, x176003, x176004, 26)) else (if (wrap64 (x169004)) ≥ (x166000.length : Int) then (some (x176000, x176001, x176002, x176003, x176004, 26)) else (some (x176000, x176001, x176002, x176003, x176004, 0)))) else (some (x176000, x176001, x176002, x176003, x176004, 0)))
end
def shape_alone.f (k : Nat) (l0_0 : List (S52)) (l0_1 : List (S40)) (a1 : Int) : Option (Int × Int × Int × Bool × Bool × Int) := if 0 ≤ a1 then (if a1 < (l0_1.length : Int) then ((insn_Of.f k ((rd_T40 l0_1 a1).f0) ((rd_T40 l0_1 a1).f1) ((rd_T40 l0_1 a1).f2) ((rd_T40 l0_1 a1).f3) ((rd_T40 l0_1 a1).f4)).bind fun bt169 => (if bt169.2.2.2.2.2 = 0 then (if bt169.1 = 10 then (shape_alone.j0 k a1 bt169.1 (bt169.1 == 10) l0_0 l0_1 ((rd_T40 l0_1 a1).f0) ((rd_T40 l0_1 a1).f1) ((rd_T40 l0_1 a1).f2) ((rd_T40 l0_1 a1).f3) ((rd_T40 l0_1 a1).f4) bt169.1 bt169.2.1 bt169.2.2.1 bt169.2.2.2.1 bt169.2.2.2.2.1) else (shape_alone.j0 k a1 bt169.1 (bt169.1 == 11) l0_0 l0_1 ((rd_T40 l0_1 a1).f0) ((rd_T40 l0_1 a1).f1) ((rd_T40 l0_1 a1).f2) ((rd_T40 l0_1 a1).f3) ((rd_T40 l0_1 a1).f4) bt169.1 bt169.2.1 bt169.2.2.1 bt169.2.2.2.1 bt169.2.2.2.2.1)) else (some (bt169.1, bt169.2.1, bt169.2.2.1, bt169.2.2.2.1, bt169.2.2.2.2.1, bt169.2.2.2.2.2)))) else (none)) else (none)
theorem shape_alone.mono_l : ∀ k, (∀ y0 y1 y2 y3 y4 y5 y6 y7 y8 y9 y10 y11 y12 y13 y14, LeO (shape_alone.j0 k y0 y1 y2 y3 y4 y5 y6 y7 y8 y9 y10 y11 y12 y13 y14) (shape_alone.j0 (k + 1) y0 y1 y2 y3 y4 y5 y6 y7 y8 y9 y10 y11 y12 y13 y14)) ∧ (∀ y0 y1 y2 y3 y4 y5 y6 y7 y8 y9 y10 y11 y12 y13 y14 y15 y16, LeO (shape_alone.j1 k y0 y1 y2 y3 y4 y5 y6 y7 y8 y9 y10 y11 y12 y13 y14 y15 y16) (shape_alone.j1 (k + 1) y0 y1 y2 y3 y4 y5 y6 y7 y8 y9 y10 y11 y12 y13 y14 y15 y16))
 | 0 => ⟨fun _ _ _ _ _ _ _ _ _ _ _ _ _ _ _ r h => by simp [shape_alone.j0] at h, fun _ _ _ _ _ _ _ _ _ _ _ _ _ _ _ _ _ r h => by simp [shape_alone.j1] at h⟩
 | k + 1 => by
  obtain ⟨ih0, ih1⟩ := shape_alone.mono_l k
  refine ⟨?_, ?_⟩
  ·intro y0 y1 y2 y3 y4 y5 y6 y7 y8 y9 y10 y11 y12 y13 y14
   unfold shape_alone.j0
   repeat' first
   | (with_reducible exact ih0 _ _ _ _ _ _ _ _ _ _ _ _ _ _ _)
   | (with_reducible exact ih1 _ _ _ _ _ _ _ _ _ _ _ _ _ _ _ _ _)
   | (with_reducible exact insn_Of.mono _ _ _ _ _ _)
   | (with_reducible exact LeO.refl _)
   | (with_reducible exact LeO.none _)
   | (with_reducible refine LeO.ite ?_ ?_)
   | (with_reducible refine LeO.bind ?_ (fun _ => ?_))
   | exact ih0 _ _ _ _ _ _ _ _ _ _ _ _ _ _ _
   | exact ih1 _ _ _ _ _ _ _ _ _ _ _ _ _ _ _ _ _
   | exact insn_Of.mono _ _ _ _ _ _
   | exact LeO.none _
   | refine LeO.ite ?_ ?_
   | refine LeO.bind ?_ (fun _ => ?_)
  ·intro y0 y1 y2 y3 y4 y5 y6 y7 y8 y9 y10 y11 y12 y13 y14 y15 y16
   unfold shape_alone.j1
   repeat' first
   | (with_reducible exact ih0 _ _ _ _ _ _ _ _ _ _ _ _ _ _ _)
   | (with_reducible exact ih1 _ _ _ _ _ _ _ _ _ _ _ _ _ _ _ _ _)
   | (with_reducible exact insn_Of.mono _ _ _ _ _ _)
   | (with_reducible exact LeO.refl _)
   | (with_reducible exact LeO.none _)
   | (with_reducible refine LeO.ite ?_ ?_)
   | (with_reducible refine LeO.bind ?_ (fun _ => ?_))
   | exact ih0 _ _ _ _ _ _ _ _ _ _ _ _ _ _ _
   | exact ih1 _ _ _ _ _ _ _ _ _ _ _ _ _ _ _ _ _
   | exact insn_Of.mono _ _ _ _ _ _
   | exact LeO.none _
   | refine LeO.ite ?_ ?_
   | refine LeO.bind ?_ (fun _ => ?_)
theorem shape_alone.mono : ∀ a0 a1 a2 k, LeO (shape_alone.f k a0 a1 a2) (shape_alone.f (k + 1) a0 a1 a2) := by
 intro a0 a1 a2 k
 obtain ⟨ih0, ih1⟩ := shape_alone.mono_l k
 unfold shape_alone.f
 repeat' first
   | (with_reducible exact ih0 _ _ _ _ _ _ _ _ _ _ _ _ _ _ _)
   | (with_reducible exact ih1 _ _ _ _ _ _ _ _ _ _ _ _ _ _ _ _ _)
   | (with_reducible exact insn_Of.mono _ _ _ _ _ _)
   | (with_reducible exact LeO.refl _)
   | (with_reducible exact LeO.none _)
   | (with_reducible refine LeO.ite ?_ ?_)
   | (with_reducible refine LeO.bind ?_ (fun _ => ?_))
   | exact ih0 _ _ _ _ _ _ _ _ _ _ _ _ _ _ _
   | exact ih1 _ _ _ _ _ _ _ _ _ _ _ _ _ _ _ _ _
   | exact insn_Of.mono _ _ _ _ _ _
   | exact LeO.none _
   | refine LeO.ite ?_ ?_
   | refine LeO.bind ?_ (fun _ => ?_)
set_option maxHeartbeats 8000000 in
set_option maxRecDepth 100000 in
theorem shape_alone.calls (k : Nat) (A0_0 : Option Addr) (c0_0 : Nat) (l0_0 : List (S52)) (A0_1 : Option Addr) (c0_1 : Nat) (l0_1 : List (S40)) (a1 : Int) (r1 : Int) (r2 : Int) (r3 : Int) (r4 : Bool) (r5 : Bool) (r6 : Int) (w : World) (hr0_0 : Kd.C k52 w A0_0 l0_0.length l0_0) (hc0_0 : l0_0.length ≤ c0_0) (hr0_1 : Kd.C k40 w A0_1 l0_1.length l0_1) (hc0_1 : l0_1.length ≤ c0_1) (hrG0 : Kd.C (Kd.int .i64) w (some ⟨0, 0, none⟩) gl0.length gl0) (h : shape_alone.f k l0_0 l0_1 a1 = some (r1, r2, r3, r4, r5, r6)) :
  Calls Tryd.prog 27 #[.agg #[.slice A0_0 l0_0.length c0_0, .slice A0_1 l0_1.length c0_1], .int .i64 a1] w fun e w' => e = .returned (.tuple #[.agg #[.int .i64 r1, .int .i64 r2, .int .i64 r3, .bool r4, .bool r5], .int .i64 r6]) ∧ Below w.heap.size w w' := by
 have hu25 := Tryd.underlying25
 have hu45 := Tryd.underlying45
 have hu40 := Tryd.underlying40
 have HR0_0 := Aside0.mk hr0_0
 have HC0_0 := Aside0.mk hc0_0
 clear hr0_0 hc0_0
 have HR0_1 := Aside0.mk hr0_1
 have HC0_1 := Aside0.mk hc0_1
 clear hr0_1 hc0_1
 have HRG0 := Aside0.mk hrG0
 clear hrG0
 have HB := Aside0.mk (Below.refl w.heap.size w)
 have H : (if 0 ≤ a1 then (if a1 < (l0_1.length : Int) then ((insn_Of.f k ((rd_T40 l0_1 a1).f0) ((rd_T40 l0_1 a1).f1) ((rd_T40 l0_1 a1).f2) ((rd_T40 l0_1 a1).f3) ((rd_T40 l0_1 a1).f4)).bind fun bt169 => (if bt169.2.2.2.2.2 = 0 then (if bt169.1 = 10 then (shape_alone.j0 k a1 bt169.1 (bt169.1 == 10) l0_0 l0_1 ((rd_T40 l0_1 a1).f0) ((rd_T40 l0_1 a1).f1) ((rd_T40 l0_1 a1).f2) ((rd_T40 l0_1 a1).f3) ((rd_T40 l0_1 a1).f4) bt169.1 bt169.2.1 bt169.2.2.1 bt169.2.2.2.1 bt169.2.2.2.2.1) else (shape_alone.j0 k a1 bt169.1 (bt169.1 == 11) l0_0 l0_1 ((rd_T40 l0_1 a1).f0) ((rd_T40 l0_1 a1).f1) ((rd_T40 l0_1 a1).f2) ((rd_T40 l0_1 a1).f3) ((rd_T40 l0_1 a1).f4) bt169.1 bt169.2.1 bt169.2.2.1 bt169.2.2.2.1 bt169.2.2.2.2.1)) else (some (bt169.1, bt169.2.1, bt169.2.2.1, bt169.2.2.2.1, bt169.2.2.2.2.1, bt169.2.2.2.2.2)))) else (none)) else (none)) = some (r1, r2, r3, r4, r5, r6) := h
 clear h
 by_cases c3 : 0 ≤ a1
 ·rw [if_pos c3] at H
  have c3b0 : decide (0 ≤ a1) = true := decide_eq_true c3
  clear c3
  by_cases c4 : a1 < (l0_1.length : Int)
  ·rw [if_pos c4] at H
   have c4b0 : decide (a1 < (l0_1.length : Int)) = true := decide_eq_true c4
   clear c4
   replace H := Option.bind_eq_some_iff.mp H; obtain ⟨⟨t169, t170, t171, t172, t173, t174⟩, A50, H⟩ := H; try dsimp only at H
   have A5 := Aside0.mk A50
   clear A50
   by_cases c6 : t174 = 0
   ·rw [if_pos c6] at H
    have c6b0 : (t174 == 0) = true := beq_iff_eq.mpr c6
    have c6b1 : (t174 != 0) = false := bne_eq_false_iff_eq.mpr c6
    clear c6
    have HC7 := Aside0.mk H
    clear H
    go_enter Tryd.func27, Tryd.ntmps27
    go_upto_if 26 with (first | ((with_reducible refine gate_dst (N := 2) rfl ?_); (try (refine gate_guard (by rfl) ?_; dsimp only)); refine sh_box 2 #[.slice A0_0 l0_0.length c0_0, .slice A0_1 l0_1.length c0_1] 25 ?_; intro gb165 hg w8 hbox hb; have GE165 := sh_z (w := w) hg; replace HB := sh_b (w := w) hb; have BK165 := Aside0.mk (hbox); clear hb hbox hg) | ((with_reducible refine gate_dst (N := 4) rfl ?_); (try (refine gate_guard (by rfl) ?_; dsimp only)); refine sh_box 4 #[.int .i64 0, .int .i64 0, .int .i64 0, .bool false, .bool false] 45 ?_; intro gb166 hg w9 hbox hb; have GE166 := sh_z (w := w) hg; have NB165_166 := sh_n BK165 hg; have NB166_165 := sh_s NB165_166; replace BK165 := sh_k BK165 hb; replace HB := sh_b (w := w) hb; have BK166 := Aside0.mk (hbox); clear hb hbox hg; have hnb10 := NB165_166.out; have hnc10 := NB166_165.out; have hcz11 := blk_all2 BK165.out; have p167 : 0 ≤ (a1 : Int) := of_decide_eq_true (by first | (with_reducible assumption) | assumption); have q167 : a1 < (l0_1.length : Int) := of_decide_eq_true (by first | (with_reducible assumption) | assumption); obtain ⟨ad167, e167, hx167_0, hx167_1, hx167_2, hx167_3, hx167_4⟩ := at_T40 HR0_1.out a1 p167 q167; cases e167; replace hx167_0 := (HB.out.cell (World.block_lt_of_cell? w _ hx167_0)).trans hx167_0; replace hx167_1 := (HB.out.cell (World.block_lt_of_cell? w _ hx167_1)).trans hx167_1; replace hx167_2 := (HB.out.cell (World.block_lt_of_cell? w _ hx167_2)).trans hx167_2; replace hx167_3 := (HB.out.cell (World.block_lt_of_cell? w _ hx167_3)).trans hx167_3; replace hx167_4 := (HB.out.cell (World.block_lt_of_cell? w _ hx167_4)).trans hx167_4; replace p167 := eq_true p167; replace q167 := eq_true q167) | ((with_reducible refine gate_dst (N := 6) rfl ?_); (try (refine gate_guard (by rfl) ?_; dsimp only)); refine sh_box 6 #[.int .u8 0, .int .u8 0, .int .u8 0, .int .i16 0, .int .i32 0] 40 ?_; intro gb168 hg w12 hbox hb; have GE168 := sh_z (w := w) hg; have NB165_168 := sh_n BK165 hg; have NB166_168 := sh_n BK166 hg; have NB168_165 := sh_s NB165_168; have NB168_166 := sh_s NB166_168; replace BK165 := sh_k BK165 hb; replace BK166 := sh_k BK166 hb; replace HB := sh_b (w := w) hb; have BK168 := Aside0.mk (hbox); clear hb hbox hg; have hnb13 := NB168_165.out; have hnc13 := NB165_168.out; have hnb14 := NB168_166.out; have hnc14 := NB166_168.out; have hcz15 := blk_all5 BK168.out) | ((with_reducible refine gate_callee (f := 22) rfl ?_); refine sh_call (some 17) Tryd.func22 #[.agg #[.int .u8 ((rd_T40 l0_1 a1).f0), .int .u8 ((rd_T40 l0_1 a1).f1), .int .u8 ((rd_T40 l0_1 a1).f2), .int .i16 ((rd_T40 l0_1 a1).f3), .int .i32 ((rd_T40 l0_1 a1).f4)]] ?_; (with_reducible refine (insn_Of.calls k ((rd_T40 l0_1 a1).f0) ((rd_T40 l0_1 a1).f1) ((rd_T40 l0_1 a1).f2) ((rd_T40 l0_1 a1).f3) ((rd_T40 l0_1 a1).f4) t169 t170 t171 t172 t173 t174 _ ?side1 A5.out).mono ?_); (case side1 => exact Kd.C_below HRG0.out b_now); rintro e w16 ⟨rfl, hb⟩; refine ⟨_, rfl, ?_⟩; replace BK165 := sh_kp (g := gb165) (t := 25) #[.slice A0_0 l0_0.length c0_0, .slice (some ad167) l0_1.length c0_1] hb; replace BK166 := sh_kp (g := gb166) (t := 45) #[.int .i64 0, .int .i64 0, .int .i64 0, .bool false, .bool false] hb; replace BK168 := sh_kp (g := gb168) (t := 40) #[.int .u8 ((rd_T40 l0_1 a1).f0), .int .u8 ((rd_T40 l0_1 a1).f1), .int .u8 ((rd_T40 l0_1 a1).f2), .int .i16 ((rd_T40 l0_1 a1).f3), .int .i32 ((rd_T40 l0_1 a1).f4)] hb; replace HB := sh_b (w := w) hb; (try clear hb); (try clear hb2); (try clear hk); (try clear hi)) | ((with_reducible refine gate_dst (N := 7) rfl ?_); (try (refine gate_guard (by rfl) ?_; dsimp only)); refine sh_box 7 #[.int .i64 0, .int .i64 0, .int .i64 0, .bool false, .bool false] 45 ?_; intro gb175 hg w17 hbox hb; have GE175 := sh_z (w := w) hg; have NB165_175 := sh_n BK165 hg; have NB166_175 := sh_n BK166 hg; have NB168_175 := sh_n BK168 hg; have NB175_165 := sh_s NB165_175; have NB175_166 := sh_s NB166_175; have NB175_168 := sh_s NB168_175; replace BK165 := sh_k BK165 hb; replace BK166 := sh_k BK166 hb; replace BK168 := sh_k BK168 hb; replace HB := sh_b (w := w) hb; have BK175 := Aside0.mk (hbox); clear hb hbox hg; have hnb18 := NB175_165.out; have hnc18 := NB165_175.out; have hnb19 := NB175_166.out; have hnc19 := NB166_175.out; have hnb20 := NB175_168.out; have hnc20 := NB168_175.out; have hcz21 := blk_all5 BK175.out))
    (try simp only [Act.put, List.setIfInBounds_toArray, List.set_cons_zero, List.set_cons_succ])
    go_cut [26] (fun v26 wc => ∃ (kq : Nat) (x26_6 : Bool), v26 = .bool x26_6 ∧ Aside0 (shape_alone.j0 kq a1 t169 x26_6 l0_0 l0_1 ((rd_T40 l0_1 a1).f0) ((rd_T40 l0_1 a1).f1) ((rd_T40 l0_1 a1).f2) ((rd_T40 l0_1 a1).f3) ((rd_T40 l0_1 a1).f4) t169 t170 t171 t172 t173 = some (r1, r2, r3, r4, r5, r6)) ∧ Aside0 (kq ≤ k) ∧ Aside0 (wc.heap[gb165]? = some (.cells #[(.slice A0_0 l0_0.length c0_0), (.slice (some ad167) l0_1.length c0_1)] 25 (0, 0))) ∧ Aside0 (wc.heap[gb166]? = some (.cells #[.int .i64 0, .int .i64 0, .int .i64 0, .bool false, .bool false] 45 (0, 0))) ∧ Aside0 (wc.heap[gb168]? = some (.cells #[.int .u8 ((rd_T40 l0_1 a1).f0), .int .u8 ((rd_T40 l0_1 a1).f1), .int .u8 ((rd_T40 l0_1 a1).f2), .int .i16 ((rd_T40 l0_1 a1).f3), .int .i32 ((rd_T40 l0_1 a1).f4)] 40 (0, 0))) ∧ Aside0 (wc.heap[gb175]? = some (.cells #[.int .i64 t169, .int .i64 t170, .int .i64 t171, .bool t172, .bool t173] 45 (0, 0))) ∧ Aside0 (Below w.heap.size w wc))
    case first =>
     have H := HC7.out
     clear HC7
     by_cases c22 : t169 = 10
     ·rw [if_pos c22] at H
      have c22b0 : (t169 == 10) = true := beq_iff_eq.mpr c22
      have c22b1 : (t169 != 10) = false := bne_eq_false_iff_eq.mpr c22
      clear c22
      (first | rw [c22b0] | (simp only [i64_w, i32_w]; rw [c22b0]) | skip)
      have H' := Aside0.mk H
      clear H
      go_wp2
      go_meet
      case rel => exact ⟨_, ((t169 == 10)), eq_now, H', ⟨by first | omega | exact Nat.le_refl _⟩, ⟨bk_now⟩, ⟨bk_now⟩, ⟨bk_now⟩, ⟨bk_now⟩, ⟨b_now⟩⟩
     ·rw [if_neg c22] at H
      have c22b0 : (t169 == 10) = false := beq_eq_false_iff_ne.mpr c22
      have c22b1 : (t169 != 10) = true := bne_iff_ne.mpr c22
      (first | rw [c22b0] | (simp only [i64_w, i32_w]; rw [c22b0]) | skip)
      have H' := Aside0.mk H
      clear H
      go_wp2
      go_meet
      case rel => exact ⟨_, ((t169 == 11)), eq_now, H', ⟨by first | omega | exact Nat.le_refl _⟩, ⟨bk_now⟩, ⟨bk_now⟩, ⟨bk_now⟩, ⟨bk_now⟩, ⟨b_now⟩⟩
    case rest =>
     clear HC7
     try clear c1
     try clear p1
     try clear q1
     try clear hx1
     try clear c2
     try clear p2
     try clear c3
     try clear c3b0
     try clear c4
     try clear c4b0
     try clear c6
     try clear c6b0
     try clear c6b1
     try clear c10
     try clear c13
     try clear c14
     try clear p16
     try clear q16
     try clear hx16
     try clear c18
     try clear c19
     try clear c20
     try clear c22
     try clear c22b0
     try clear c22b1
     try clear hcz11
     try clear hcz15
     try clear hcz21
     try clear hx167_0
     try clear hx167_1
     try clear hx167_2
     try clear hx167_3
     try clear hx167_4
     try clear p167
     try clear q167
     obtain ⟨kq, x26_6, rfl, HA, HJ6, BK165, BK166, BK168, BK175, HB⟩ := hcut
     cases kq with
     | zero => exact absurd HA.out (by simp [shape_alone.j0])
     | succ kj6 =>
      have H := HA.out
      clear HA
      simp only [shape_alone.j0] at H
      by_cases c23 : x26_6 = true
      ·subst c23
       replace H := sh_t H
       by_cases c24 : (wrap64 (a1 + 1)) = (l0_1.length : Int)
       ·rw [if_pos c24] at H
        have c24b0 : ((wrap64 (a1 + 1)) == (l0_1.length : Int)) = true := beq_iff_eq.mpr c24
        have c24b1 : ((wrap64 (a1 + 1)) != (l0_1.length : Int)) = false := bne_eq_false_iff_eq.mpr c24
        clear c24
        simp only [Option.some.injEq, Prod.mk.injEq] at H
        obtain ⟨rfl, rfl, rfl, rfl, rfl, rfl⟩ := H
        have hnb25 := NB165_166.out
        have hnc25 := NB166_165.out
        have hnb26 := NB165_168.out
        have hnc26 := NB168_165.out
        have hnb27 := NB165_175.out
        have hnc27 := NB175_165.out
        have hcz28 := blk_all2 BK165.out
        have hnb29 := NB175_166.out
        have hnc29 := NB166_175.out
        have hnb30 := NB175_168.out
        have hnc30 := NB168_175.out
        have hcz31 := blk_all5 BK175.out
        have hnb32 := NB166_168.out
        have hnc32 := NB168_166.out
        have hcz33 := blk_all5 BK166.out
        go_wp2
        refine bodyPost_ret (results_ct rfl _ _ gb166 45 #[.int .i64 t169, .int .i64 t170, .int .i64 t171, .bool t172, .bool t173] (0, 0) _ rfl bk_now Tryd.underlying45 rfl (by kernel_rfl)) rfl ?_
        exact ⟨ret_now, b_now⟩
       ·rw [if_neg c24] at H
        have c24b0 : ((wrap64 (a1 + 1)) == (l0_1.length : Int)) = false := beq_eq_false_iff_ne.mpr c24
        have c24b1 : ((wrap64 (a1 + 1)) != (l0_1.length : Int)) = true := bne_iff_ne.mpr c24
        obtain ⟨ji34, hji34⟩ : ∃ j_ : Int, (wrap64 (a1 + 1)) = j_ := ⟨_, rfl⟩
        replace H : (if 0 ≤ (ji34) then (if (ji34) < (l0_1.length : Int) then (if t169 = 10 then (shape_alone.j1 kj6 l0_0 l0_1 ((rd_T40 l0_1 a1).f0) ((rd_T40 l0_1 a1).f1) ((rd_T40 l0_1 a1).f2) ((rd_T40 l0_1 a1).f3) ((rd_T40 l0_1 a1).f4) t169 t170 t171 t172 t173 ((rd_T40 l0_1 (ji34)).f0) ((rd_T40 l0_1 (ji34)).f1) ((rd_T40 l0_1 (ji34)).f2) ((rd_T40 l0_1 (ji34)).f3) 0) else (shape_alone.j1 kj6 l0_0 l0_1 ((rd_T40 l0_1 a1).f0) ((rd_T40 l0_1 a1).f1) ((rd_T40 l0_1 a1).f2) ((rd_T40 l0_1 a1).f3) ((rd_T40 l0_1 a1).f4) t169 t170 t171 t172 t173 ((rd_T40 l0_1 (ji34)).f0) ((rd_T40 l0_1 (ji34)).f1) ((rd_T40 l0_1 (ji34)).f2) ((rd_T40 l0_1 (ji34)).f3) ((rd_T40 l0_1 (ji34)).f4))) else (none)) else (none)) = some (r1, r2, r3, r4, r5, r6) := by first | (rw [hji34] at H; exact H) | (simp only [hji34] at H ⊢; exact H)
        (try rw [hji34] at c24b0)
        (try rw [hji34] at c24b1)
        have hji34w : (IntKind.i64.wrap (a1 + 1)) = ji34 := (i64_w _).trans hji34
        by_cases c35 : 0 ≤ (ji34)
        ·rw [if_pos c35] at H
         have c35b0 : decide (0 ≤ (ji34)) = true := decide_eq_true c35
         clear c35
         by_cases c36 : (ji34) < (l0_1.length : Int)
         ·rw [if_pos c36] at H
          have c36b0 : decide ((ji34) < (l0_1.length : Int)) = true := decide_eq_true c36
          clear c36
          have HC37 := Aside0.mk H
          clear H
          have hnb38 := NB165_166.out
          have hnc38 := NB166_165.out
          have hnb39 := NB165_168.out
          have hnc39 := NB168_165.out
          have hnb40 := NB165_175.out
          have hnc40 := NB175_165.out
          have hcz41 := blk_all2 BK165.out
          have p176 : 0 ≤ ((ji34) : Int) := of_decide_eq_true (by first | (with_reducible assumption) | assumption)
          have q176 : (ji34) < (l0_1.length : Int) := of_decide_eq_true (by first | (with_reducible assumption) | assumption)
          obtain ⟨ad176, e176, hx176_0, hx176_1, hx176_2, hx176_3, hx176_4⟩ := at_T40 HR0_1.out (ji34) p176 q176
          obtain rfl : ad167 = ad176 := (by injection e176)
          replace hx176_0 := (HB.out.cell (World.block_lt_of_cell? w _ hx176_0)).trans hx176_0
          replace hx176_1 := (HB.out.cell (World.block_lt_of_cell? w _ hx176_1)).trans hx176_1
          replace hx176_2 := (HB.out.cell (World.block_lt_of_cell? w _ hx176_2)).trans hx176_2
          replace hx176_3 := (HB.out.cell (World.block_lt_of_cell? w _ hx176_3)).trans hx176_3
          replace hx176_4 := (HB.out.cell (World.block_lt_of_cell? w _ hx176_4)).trans hx176_4
          replace p176 := eq_true p176
          replace q176 := eq_true q176
          go_upto_if 44 with (first | ((with_reducible refine gate_dst (N := 9) rfl ?_); (try (refine gate_guard (by rfl) ?_; dsimp only)); refine sh_box 9 #[.int .u8 0, .int .u8 0, .int .u8 0, .int .i16 0, .int .i32 0] 40 ?_; intro gb177 hg w42 hbox hb; have GE177 := sh_z (w := w) hg; have NB165_177 := sh_n BK165 hg; have NB166_177 := sh_n BK166 hg; have NB168_177 := sh_n BK168 hg; have NB175_177 := sh_n BK175 hg; have NB177_165 := sh_s NB165_177; have NB177_166 := sh_s NB166_177; have NB177_168 := sh_s NB168_177; have NB177_175 := sh_s NB175_177; replace BK165 := sh_k BK165 hb; replace BK166 := sh_k BK166 hb; replace BK168 := sh_k BK168 hb; replace BK175 := sh_k BK175 hb; replace HB := sh_b (w := w) hb; have BK177 := Aside0.mk (hbox); clear hb hbox hg; have hnb43 := NB177_165.out; have hnc43 := NB165_177.out; have hnb44 := NB177_166.out; have hnc44 := NB166_177.out; have hnb45 := NB177_168.out; have hnc45 := NB168_177.out; have hnb46 := NB177_175.out; have hnc46 := NB175_177.out; have hcz47 := blk_all5 BK177.out; have hnb48 := NB175_166.out; have hnc48 := NB166_175.out; have hnb49 := NB175_168.out; have hnc49 := NB168_175.out; have hcz50 := blk_all5 BK175.out))
          (try simp only [Act.put, List.setIfInBounds_toArray, List.set_cons_zero, List.set_cons_succ])
          go_cut [] (fun wc => ∃ (kq : Nat) (x178004_36 : Int), Aside0 (shape_alone.j1 kq l0_0 l0_1 ((rd_T40 l0_1 a1).f0) ((rd_T40 l0_1 a1).f1) ((rd_T40 l0_1 a1).f2) ((rd_T40 l0_1 a1).f3) ((rd_T40 l0_1 a1).f4) t169 t170 t171 t172 t173 ((rd_T40 l0_1 (ji34)).f0) ((rd_T40 l0_1 (ji34)).f1) ((rd_T40 l0_1 (ji34)).f2) ((rd_T40 l0_1 (ji34)).f3) x178004_36 = some (r1, r2, r3, r4, r5, r6)) ∧ Aside0 (kq ≤ kj6) ∧ Aside0 (wc.heap[gb165]? = some (.cells #[(.slice A0_0 l0_0.length c0_0), (.slice (some ad167) l0_1.length c0_1)] 25 (0, 0))) ∧ Aside0 (wc.heap[gb166]? = some (.cells #[.int .i64 0, .int .i64 0, .int .i64 0, .bool false, .bool false] 45 (0, 0))) ∧ Aside0 (wc.heap[gb168]? = some (.cells #[.int .u8 ((rd_T40 l0_1 a1).f0), .int .u8 ((rd_T40 l0_1 a1).f1), .int .u8 ((rd_T40 l0_1 a1).f2), .int .i16 ((rd_T40 l0_1 a1).f3), .int .i32 ((rd_T40 l0_1 a1).f4)] 40 (0, 0))) ∧ Aside0 (wc.heap[gb175]? = some (.cells #[.int .i64 t169, .int .i64 t170, .int .i64 t171, .bool t172, .bool t173] 45 (0, 0))) ∧ Aside0 (wc.heap[gb177]? = some (.cells #[.int .u8 ((rd_T40 l0_1 (ji34)).f0), .int .u8 ((rd_T40 l0_1 (ji34)).f1), .int .u8 ((rd_T40 l0_1 (ji34)).f2), .int .i16 ((rd_T40 l0_1 (ji34)).f3), .int .i32 x178004_36] 40 (0, 0))) ∧ Aside0 (Below w.heap.size w wc))
          case first =>
           have H := HC37.out
           clear HC37
           by_cases c51 : t169 = 10
           ·rw [if_pos c51] at H
            have c51b0 : (t169 == 10) = true := beq_iff_eq.mpr c51
            have c51b1 : (t169 != 10) = false := bne_eq_false_iff_eq.mpr c51
            clear c51
            (first | rw [c51b0] | (simp only [i64_w, i32_w]; rw [c51b0]) | skip)
            have H' := Aside0.mk H
            clear H
            have hnb52 := NB177_165.out
            have hnc52 := NB165_177.out
            have hnb53 := NB177_166.out
            have hnc53 := NB166_177.out
            have hnb54 := NB177_168.out
            have hnc54 := NB168_177.out
            have hnb55 := NB177_175.out
            have hnc55 := NB175_177.out
            have hcz56 := blk_all5 BK177.out
            go_wp2
            go_meet
            case rel => exact ⟨_, (0), H', ⟨by have := HJ6.out; first | omega | exact Nat.le_refl _⟩, ⟨bk_now⟩, ⟨bk_now⟩, ⟨bk_now⟩, ⟨bk_now⟩, ⟨bk_now⟩, ⟨b_now⟩⟩
           ·rw [if_neg c51] at H
            have c51b0 : (t169 == 10) = false := beq_eq_false_iff_ne.mpr c51
            have c51b1 : (t169 != 10) = true := bne_iff_ne.mpr c51
            (first | rw [c51b0] | (simp only [i64_w, i32_w]; rw [c51b0]) | skip)
            have H' := Aside0.mk H
            clear H
            go_wp2
            go_meet
            case rel => exact ⟨_, ((rd_T40 l0_1 (ji34)).f4), H', ⟨by have := HJ6.out; first | omega | exact Nat.le_refl _⟩, ⟨bk_now⟩, ⟨bk_now⟩, ⟨bk_now⟩, ⟨bk_now⟩, ⟨bk_now⟩, ⟨b_now⟩⟩
          case rest =>
           clear HC37
           try clear c1
           try clear p1
           try clear q1
           try clear hx1
           try clear c2
           try clear p2
           try clear c3
           try clear c3b0
           try clear c4
           try clear c4b0
           try clear c5
           try clear c6
           try clear c6b0
           try clear c6b1
           try clear p6
           try clear c10
           try clear c13
           try clear c14
           try clear p16
           try clear q16
           try clear hx16
           try clear p17
           try clear q17
           try clear hx17
           try clear c18
           try clear c19
           try clear c20
           try clear c22
           try clear c22b0
           try clear c22b1
           try clear c23
           try clear c24
           try clear c24b0
           try clear c24b1
           try clear c25
           try clear c26
           try clear c27
           try clear c29
           try clear c30
           try clear c32
           try clear c35
           try clear c35b0
           try clear c36
           try clear c36b0
           try clear c38
           try clear c39
           try clear c40
           try clear c43
           try clear c44
           try clear c45
           try clear c46
           try clear c48
           try clear c49
           try clear c51
           try clear c51b0
           try clear c51b1
           try clear c52
           try clear c53
           try clear c54
           try clear c55
           try clear hcz11
           try clear hcz15
           try clear hcz21
           try clear hcz28
           try clear hcz31
           try clear hcz33
           try clear hcz41
           try clear hcz47
           try clear hcz50
           try clear hcz56
           try clear hx167_0
           try clear hx167_1
           try clear hx167_2
           try clear hx167_3
           try clear hx167_4
           try clear hx176_0
           try clear hx176_1
           try clear hx176_2
           try clear hx176_3
           try clear hx176_4
           try clear p1
           try clear p16
           try clear p167
           try clear p176
           try clear p2
           try clear q1
           try clear q16
           try clear q167
           try clear q176
           obtain ⟨kq, x178004_36, HA, HJ36, BK165, BK166, BK168, BK175, BK177, HB⟩ := hcut
           cases kq with
           | zero => exact absurd HA.out (by simp [shape_alone.j1])
           | succ kj36 =>
            have H := HA.out
            clear HA
            simp only [shape_alone.j1] at H
            by_cases c57 : (!(((rd_T40 l0_1 (ji34)).f0) == 0) || (!(((rd_T40 l0_1 (ji34)).f1) == 0) || (!(((rd_T40 l0_1 (ji34)).f2) == 0) || (!(((rd_T40 l0_1 (ji34)).f3) == 0) || (!(x178004_36 == 0)))))) = true
            ·rw [if_pos c57] at H
             have c57b0 : (!(((rd_T40 l0_1 (ji34)).f0) == 0) || (!(((rd_T40 l0_1 (ji34)).f1) == 0) || (!(((rd_T40 l0_1 (ji34)).f2) == 0) || (!(((rd_T40 l0_1 (ji34)).f3) == 0) || (!(x178004_36 == 0)))))) = true := c57
             clear c57
             simp only [Option.some.injEq, Prod.mk.injEq] at H
             obtain ⟨rfl, rfl, rfl, rfl, rfl, rfl⟩ := H
             have hnb58 := NB177_165.out
             have hnc58 := NB165_177.out
             have hnb59 := NB177_166.out
             have hnc59 := NB166_177.out
             have hnb60 := NB177_168.out
             have hnc60 := NB168_177.out
             have hnb61 := NB177_175.out
             have hnc61 := NB175_177.out
             have hcz62 := blk_all5 BK177.out
             have hnb63 := NB175_165.out
             have hnc63 := NB165_175.out
             have hnb64 := NB175_166.out
             have hnc64 := NB166_175.out
             have hnb65 := NB175_168.out
             have hnc65 := NB168_175.out
             have hcz66 := blk_all5 BK175.out
             have hnb67 := NB166_165.out
             have hnc67 := NB165_166.out
             have hnb68 := NB166_168.out
             have hnc68 := NB168_166.out
             have hcz69 := blk_all5 BK166.out
             go_wp2
             refine bodyPost_ret (results_ct rfl _ _ gb166 45 #[.int .i64 t169, .int .i64 t170, .int .i64 t171, .bool t172, .bool t173] (0, 0) _ rfl bk_now Tryd.underlying45 rfl (by kernel_rfl)) rfl ?_
             exact ⟨by first | rfl | (simp [errW_none, errW_some] <;> rfl) | (simp only [← hji34]; first | rfl | (simp [errW_none, errW_some] <;> rfl)) | (simp [*, errW_none, errW_some] <;> rfl), b_now⟩
            ·rw [if_neg c57] at H
             have c57b0 : (!(((rd_T40 l0_1 (ji34)).f0) == 0) || (!(((rd_T40 l0_1 (ji34)).f1) == 0) || (!(((rd_T40 l0_1 (ji34)).f2) == 0) || (!(((rd_T40 l0_1 (ji34)).f3) == 0) || (!(x178004_36 == 0)))))) = false := by simpa using c57
             clear c57
             by_cases c70 : t169 = 11
             ·rw [if_pos c70] at H
              have c70b0 : (t169 == 11) = true := beq_iff_eq.mpr c70
              have c70b1 : (t169 != 11) = false := bne_eq_false_iff_eq.mpr c70
              clear c70
              by_cases c71 : ((rd_T40 l0_1 a1).f4) < 0
              ·rw [if_pos c71] at H
               have c71b0 : decide (((rd_T40 l0_1 a1).f4) < 0) = true := decide_eq_true c71
               clear c71
               simp only [Option.some.injEq, Prod.mk.injEq] at H
               obtain ⟨rfl, rfl, rfl, rfl, rfl, rfl⟩ := H
               have hnb72 := NB177_165.out
               have hnc72 := NB165_177.out
               have hnb73 := NB177_166.out
               have hnc73 := NB166_177.out
               have hnb74 := NB177_168.out
               have hnc74 := NB168_177.out
               have hnb75 := NB177_175.out
               have hnc75 := NB175_177.out
               have hcz76 := blk_all5 BK177.out
               have hnb77 := NB175_165.out
               have hnc77 := NB165_175.out
               have hnb78 := NB175_166.out
               have hnc78 := NB166_175.out
               have hnb79 := NB175_168.out
               have hnc79 := NB168_175.out
               have hcz80 := blk_all5 BK175.out
               have hnb81 := NB168_165.out
               have hnc81 := NB165_168.out
               have hnb82 := NB168_166.out
               have hnc82 := NB166_168.out
               have hcz83 := blk_all5 BK168.out
               have hnb84 := NB166_165.out
               have hnc84 := NB165_166.out
               have hcz85 := blk_all5 BK166.out
               go_wp2
               refine bodyPost_ret (results_ct rfl _ _ gb166 45 #[.int .i64 t169, .int .i64 t170, .int .i64 t171, .bool t172, .bool t173] (0, 0) _ rfl bk_now Tryd.underlying45 rfl (by kernel_rfl)) rfl ?_
               exact ⟨by first | rfl | (simp [errW_none, errW_some] <;> rfl) | (simp only [← hji34]; first | rfl | (simp [errW_none, errW_some] <;> rfl)) | (simp [*, errW_none, errW_some] <;> rfl), b_now⟩
              ·rw [if_neg c71] at H
               have c71b0 : decide (((rd_T40 l0_1 a1).f4) < 0) = false := decide_eq_false c71
               clear c71
               by_cases c86 : (wrap64 (((rd_T40 l0_1 a1).f4))) ≥ (l0_0.length : Int)
               ·rw [if_pos c86] at H
                have c86b0 : decide ((l0_0.length : Int) ≤ (wrap64 (((rd_T40 l0_1 a1).f4)))) = true := decide_eq_true c86
                clear c86
                simp only [Option.some.injEq, Prod.mk.injEq] at H
                obtain ⟨rfl, rfl, rfl, rfl, rfl, rfl⟩ := H
                have hnb87 := NB177_165.out
                have hnc87 := NB165_177.out
                have hnb88 := NB177_166.out
                have hnc88 := NB166_177.out
                have hnb89 := NB177_168.out
                have hnc89 := NB168_177.out
                have hnb90 := NB177_175.out
                have hnc90 := NB175_177.out
                have hcz91 := blk_all5 BK177.out
                have hnb92 := NB175_165.out
                have hnc92 := NB165_175.out
                have hnb93 := NB175_166.out
                have hnc93 := NB166_175.out
                have hnb94 := NB175_168.out
                have hnc94 := NB168_175.out
                have hcz95 := blk_all5 BK175.out
                have hnb96 := NB168_165.out
                have hnc96 := NB165_168.out
                have hnb97 := NB168_166.out
                have hnc97 := NB166_168.out
                have hcz98 := blk_all5 BK168.out
                have hnb99 := NB165_166.out
                have hnc99 := NB166_165.out
                have hcz100 := blk_all2 BK165.out
                have hcz101 := blk_all5 BK166.out
                go_wp2
                refine bodyPost_ret (results_ct rfl _ _ gb166 45 #[.int .i64 t169, .int .i64 t170, .int .i64 t171, .bool t172, .bool t173] (0, 0) _ rfl bk_now Tryd.underlying45 rfl (by kernel_rfl)) rfl ?_
                exact ⟨by first | rfl | (simp [errW_none, errW_some] <;> rfl) | (simp only [← hji34]; first | rfl | (simp [errW_none, errW_some] <;> rfl)) | (simp [*, errW_none, errW_some] <;> rfl), b_now⟩
               ·rw [if_neg c86] at H
                have c86b0 : decide ((l0_0.length : Int) ≤ (wrap64 (((rd_T40 l0_1 a1).f4)))) = false := decide_eq_false c86
                clear c86
                simp only [Option.some.injEq, Prod.mk.injEq] at H
                obtain ⟨rfl, rfl, rfl, rfl, rfl, rfl⟩ := H
                have hnb102 := NB177_165.out
                have hnc102 := NB165_177.out
                have hnb103 := NB177_166.out
                have hnc103 := NB166_177.out
                have hnb104 := NB177_168.out
                have hnc104 := NB168_177.out
                have hnb105 := NB177_175.out
                have hnc105 := NB175_177.out
                have hcz106 := blk_all5 BK177.out
                have hnb107 := NB175_165.out
                have hnc107 := NB165_175.out
                have hnb108 := NB175_166.out
                have hnc108 := NB166_175.out
                have hnb109 := NB175_168.out
                have hnc109 := NB168_175.out
                have hcz110 := blk_all5 BK175.out
                have hnb111 := NB168_165.out
                have hnc111 := NB165_168.out
                have hnb112 := NB168_166.out
                have hnc112 := NB166_168.out
                have hcz113 := blk_all5 BK168.out
                have hnb114 := NB165_166.out
                have hnc114 := NB166_165.out
                have hcz115 := blk_all2 BK165.out
                have hcz116 := blk_all5 BK166.out
                go_wp2
                refine bodyPost_ret (results_ct rfl _ _ gb166 45 #[.int .i64 t169, .int .i64 t170, .int .i64 t171, .bool t172, .bool t173] (0, 0) _ rfl bk_now Tryd.underlying45 rfl (by kernel_rfl)) rfl ?_
                exact ⟨by first | rfl | (simp [errW_none, errW_some] <;> rfl) | (simp only [← hji34]; first | rfl | (simp [errW_none, errW_some] <;> rfl)) | (simp [*, errW_none, errW_some] <;> rfl), b_now⟩
             ·rw [if_neg c70] at H
              have c70b0 : (t169 == 11) = false := beq_eq_false_iff_ne.mpr c70
              have c70b1 : (t169 != 11) = true := bne_iff_ne.mpr c70
              simp only [Option.some.injEq, Prod.mk.injEq] at H
              obtain ⟨rfl, rfl, rfl, rfl, rfl, rfl⟩ := H
              have hnb117 := NB177_165.out
              have hnc117 := NB165_177.out
              have hnb118 := NB177_166.out
              have hnc118 := NB166_177.out
              have hnb119 := NB177_168.out
              have hnc119 := NB168_177.out
              have hnb120 := NB177_175.out
              have hnc120 := NB175_177.out
              have hcz121 := blk_all5 BK177.out
              have hnb122 := NB175_165.out
              have hnc122 := NB165_175.out
              have hnb123 := NB175_166.out
              have hnc123 := NB166_175.out
              have hnb124 := NB175_168.out
              have hnc124 := NB168_175.out
              have hcz125 := blk_all5 BK175.out
              have hnb126 := NB166_165.out
              have hnc126 := NB165_166.out
              have hnb127 := NB166_168.out
              have hnc127 := NB168_166.out
              have hcz128 := blk_all5 BK166.out
              go_wp2
              refine bodyPost_ret (results_ct rfl _ _ gb166 45 #[.int .i64 t169, .int .i64 t170, .int .i64 t171, .bool t172, .bool t173] (0, 0) _ rfl bk_now Tryd.underlying45 rfl (by kernel_rfl)) rfl ?_
              exact ⟨by first | rfl | (simp [errW_none, errW_some] <;> rfl) | (simp only [← hji34]; first | rfl | (simp [errW_none, errW_some] <;> rfl)) | (simp [*, errW_none, errW_some] <;> rfl), b_now⟩
         ·rw [if_neg c36] at H
          exact absurd H (by simp)
        ·rw [if_neg c35] at H
         exact absurd H (by simp)
      ·replace c23 := Bool.eq_false_iff.mpr c23
       subst c23
       replace H := sh_f H
       by_cases c129 : t169 = 8
       ·rw [if_pos c129] at H
        have c129b0 : (t169 == 8) = true := beq_iff_eq.mpr c129
        have c129b1 : (t169 != 8) = false := bne_eq_false_iff_eq.mpr c129
        clear c129
        replace H := Option.bind_eq_some_iff.mp H; obtain ⟨t178, A1300, H⟩ := H; try dsimp only at H
        have A130 := Aside0.mk A1300
        clear A1300
        by_cases c131 : t178 = true
        ·subst c131
         replace H := sh_t H
         simp only [Option.some.injEq, Prod.mk.injEq] at H
         obtain ⟨rfl, rfl, rfl, rfl, rfl, rfl⟩ := H
         have hnb132 := NB168_165.out
         have hnc132 := NB165_168.out
         have hnb133 := NB168_166.out
         have hnc133 := NB166_168.out
         have hnb134 := NB168_175.out
         have hnc134 := NB175_168.out
         have hcz135 := blk_all5 BK168.out
         go_wp2_with (first | ((with_reducible refine gate_callee (f := 17) rfl ?_); refine sh_call (some 72) Tryd.func17 #[.int .i32 ((rd_T40 l0_1 a1).f4)] ?_; (with_reducible refine (shape_Helper.calls ((rd_T40 l0_1 a1).f4) true _ A130.out).mono ?_); rintro e w' ⟨rfl, ⟨nd, rfl⟩⟩; refine ⟨_, rfl, ?_⟩; (try (rw [drewN_self wc]; generalize hq_ : World.drewN wc _ = wc; have n0_ : Aside0 (wc.heap[gb165]? = some (.cells #[.slice A0_0 l0_0.length c0_0, .slice (some ad167) l0_1.length c0_1] 25 (0, 0))) := ⟨by rw [← hq_]; exact bk_now⟩; have n1_ : Aside0 (wc.heap[gb166]? = some (.cells #[.int .i64 0, .int .i64 0, .int .i64 0, .bool false, .bool false] 45 (0, 0))) := ⟨by rw [← hq_]; exact bk_now⟩; have n2_ : Aside0 (wc.heap[gb168]? = some (.cells #[.int .u8 ((rd_T40 l0_1 a1).f0), .int .u8 ((rd_T40 l0_1 a1).f1), .int .u8 ((rd_T40 l0_1 a1).f2), .int .i16 ((rd_T40 l0_1 a1).f3), .int .i32 ((rd_T40 l0_1 a1).f4)] 40 (0, 0))) := ⟨by rw [← hq_]; exact bk_now⟩; have n3_ : Aside0 (wc.heap[gb175]? = some (.cells #[.int .i64 t169, .int .i64 t170, .int .i64 t171, .bool t172, .bool t173] 45 (0, 0))) := ⟨by rw [← hq_]; exact bk_now⟩; have n4_ : Aside0 (Below w.heap.size w wc) := ⟨by rw [← hq_]; exact b_now⟩; clear BK165 BK166 BK168 BK175 HB hq_; have BK165 := n0_; have BK166 := n1_; have BK168 := n2_; have BK175 := n3_; have HB := n4_; clear n0_ n1_ n2_ n3_ n4_)); have hnb136 := NB175_165.out; have hnc136 := NB165_175.out; have hnb137 := NB175_166.out; have hnc137 := NB166_175.out; have hcz138 := blk_all5 BK175.out; have hnb139 := NB166_165.out; have hnc139 := NB165_166.out; have hcz140 := blk_all5 BK166.out))
         refine bodyPost_ret (results_ct rfl _ _ gb166 45 #[.int .i64 t169, .int .i64 t170, .int .i64 t171, .bool t172, .bool t173] (0, 0) _ rfl bk_now Tryd.underlying45 rfl (by kernel_rfl)) rfl ?_
         exact ⟨ret_now, b_now⟩
        ·replace c131 := Bool.eq_false_iff.mpr c131
         subst c131
         replace H := sh_f H
         simp only [Option.some.injEq, Prod.mk.injEq] at H
         obtain ⟨rfl, rfl, rfl, rfl, rfl, rfl⟩ := H
         have hnb141 := NB168_165.out
         have hnc141 := NB165_168.out
         have hnb142 := NB168_166.out
         have hnc142 := NB166_168.out
         have hnb143 := NB168_175.out
         have hnc143 := NB175_168.out
         have hcz144 := blk_all5 BK168.out
         go_wp2_with (first | ((with_reducible refine gate_callee (f := 17) rfl ?_); refine sh_call (some 72) Tryd.func17 #[.int .i32 ((rd_T40 l0_1 a1).f4)] ?_; (with_reducible refine (shape_Helper.calls ((rd_T40 l0_1 a1).f4) false _ A130.out).mono ?_); rintro e w' ⟨rfl, ⟨nd, rfl⟩⟩; refine ⟨_, rfl, ?_⟩; (try (rw [drewN_self wc]; generalize hq_ : World.drewN wc _ = wc; have n0_ : Aside0 (wc.heap[gb165]? = some (.cells #[.slice A0_0 l0_0.length c0_0, .slice (some ad167) l0_1.length c0_1] 25 (0, 0))) := ⟨by rw [← hq_]; exact bk_now⟩; have n1_ : Aside0 (wc.heap[gb166]? = some (.cells #[.int .i64 0, .int .i64 0, .int .i64 0, .bool false, .bool false] 45 (0, 0))) := ⟨by rw [← hq_]; exact bk_now⟩; have n2_ : Aside0 (wc.heap[gb168]? = some (.cells #[.int .u8 ((rd_T40 l0_1 a1).f0), .int .u8 ((rd_T40 l0_1 a1).f1), .int .u8 ((rd_T40 l0_1 a1).f2), .int .i16 ((rd_T40 l0_1 a1).f3), .int .i32 ((rd_T40 l0_1 a1).f4)] 40 (0, 0))) := ⟨by rw [← hq_]; exact bk_now⟩; have n3_ : Aside0 (wc.heap[gb175]? = some (.cells #[.int .i64 t169, .int .i64 t170, .int .i64 t171, .bool t172, .bool t173] 45 (0, 0))) := ⟨by rw [← hq_]; exact bk_now⟩; have n4_ : Aside0 (Below w.heap.size w wc) := ⟨by rw [← hq_]; exact b_now⟩; clear BK165 BK166 BK168 BK175 HB hq_; have BK165 := n0_; have BK166 := n1_; have BK168 := n2_; have BK175 := n3_; have HB := n4_; clear n0_ n1_ n2_ n3_ n4_)); have hnb145 := NB175_165.out; have hnc145 := NB165_175.out; have hnb146 := NB175_166.out; have hnc146 := NB166_175.out; have hcz147 := blk_all5 BK175.out; have hnb148 := NB166_165.out; have hnc148 := NB165_166.out; have hcz149 := blk_all5 BK166.out))
         refine bodyPost_ret (results_ct rfl _ _ gb166 45 #[.int .i64 t169, .int .i64 t170, .int .i64 t171, .bool t172, .bool t173] (0, 0) _ rfl bk_now Tryd.underlying45 rfl (by kernel_rfl)) rfl ?_
         exact ⟨ret_now, b_now⟩
       ·rw [if_neg c129] at H
        have c129b0 : (t169 == 8) = false := beq_eq_false_iff_ne.mpr c129
        have c129b1 : (t169 != 8) = true := bne_iff_ne.mpr c129
        simp only [Option.some.injEq, Prod.mk.injEq] at H
        obtain ⟨rfl, rfl, rfl, rfl, rfl, rfl⟩ := H
        have hnb150 := NB175_165.out
        have hnc150 := NB165_175.out
        have hnb151 := NB175_166.out
        have hnc151 := NB166_175.out
        have hnb152 := NB175_168.out
        have hnc152 := NB168_175.out
        have hcz153 := blk_all5 BK175.out
        have hnb154 := NB166_165.out
        have hnc154 := NB165_166.out
        have hnb155 := NB166_168.out
        have hnc155 := NB168_166.out
        have hcz156 := blk_all5 BK166.out
        go_wp2
        refine bodyPost_ret (results_ct rfl _ _ gb166 45 #[.int .i64 t169, .int .i64 t170, .int .i64 t171, .bool t172, .bool t173] (0, 0) _ rfl bk_now Tryd.underlying45 rfl (by kernel_rfl)) rfl ?_
        exact ⟨ret_now, b_now⟩
   ·rw [if_neg c6] at H
    have c6b0 : (t174 == 0) = false := beq_eq_false_iff_ne.mpr c6
    have c6b1 : (t174 != 0) = true := bne_iff_ne.mpr c6
    simp only [Option.some.injEq, Prod.mk.injEq] at H
    obtain ⟨rfl, rfl, rfl, rfl, rfl, rfl⟩ := H
    go_enter Tryd.func27, Tryd.ntmps27
    go_wp2_with (first | ((with_reducible refine gate_dst (N := 2) rfl ?_); (try (refine gate_guard (by rfl) ?_; dsimp only)); refine sh_box 2 #[.slice A0_0 l0_0.length c0_0, .slice A0_1 l0_1.length c0_1] 25 ?_; intro gb165 hg w157 hbox hb; have GE165 := sh_z (w := w) hg; replace HB := sh_b (w := w) hb; have BK165 := Aside0.mk (hbox); clear hb hbox hg) | ((with_reducible refine gate_dst (N := 4) rfl ?_); (try (refine gate_guard (by rfl) ?_; dsimp only)); refine sh_box 4 #[.int .i64 0, .int .i64 0, .int .i64 0, .bool false, .bool false] 45 ?_; intro gb166 hg w158 hbox hb; have GE166 := sh_z (w := w) hg; have NB165_166 := sh_n BK165 hg; have NB166_165 := sh_s NB165_166; replace BK165 := sh_k BK165 hb; replace HB := sh_b (w := w) hb; have BK166 := Aside0.mk (hbox); clear hb hbox hg; have hnb159 := NB165_166.out; have hnc159 := NB166_165.out; have hcz160 := blk_all2 BK165.out; have p167 : 0 ≤ (a1 : Int) := of_decide_eq_true (by first | (with_reducible assumption) | assumption); have q167 : a1 < (l0_1.length : Int) := of_decide_eq_true (by first | (with_reducible assumption) | assumption); obtain ⟨ad167, e167, hx167_0, hx167_1, hx167_2, hx167_3, hx167_4⟩ := at_T40 HR0_1.out a1 p167 q167; cases e167; replace hx167_0 := (HB.out.cell (World.block_lt_of_cell? w _ hx167_0)).trans hx167_0; replace hx167_1 := (HB.out.cell (World.block_lt_of_cell? w _ hx167_1)).trans hx167_1; replace hx167_2 := (HB.out.cell (World.block_lt_of_cell? w _ hx167_2)).trans hx167_2; replace hx167_3 := (HB.out.cell (World.block_lt_of_cell? w _ hx167_3)).trans hx167_3; replace hx167_4 := (HB.out.cell (World.block_lt_of_cell? w _ hx167_4)).trans hx167_4; replace p167 := eq_true p167; replace q167 := eq_true q167) | ((with_reducible refine gate_dst (N := 6) rfl ?_); (try (refine gate_guard (by rfl) ?_; dsimp only)); refine sh_box 6 #[.int .u8 0, .int .u8 0, .int .u8 0, .int .i16 0, .int .i32 0] 40 ?_; intro gb168 hg w161 hbox hb; have GE168 := sh_z (w := w) hg; have NB165_168 := sh_n BK165 hg; have NB166_168 := sh_n BK166 hg; have NB168_165 := sh_s NB165_168; have NB168_166 := sh_s NB166_168; replace BK165 := sh_k BK165 hb; replace BK166 := sh_k BK166 hb; replace HB := sh_b (w := w) hb; have BK168 := Aside0.mk (hbox); clear hb hbox hg; have hnb162 := NB168_165.out; have hnc162 := NB165_168.out; have hnb163 := NB168_166.out; have hnc163 := NB166_168.out; have hcz164 := blk_all5 BK168.out) | ((with_reducible refine gate_callee (f := 22) rfl ?_); refine sh_call (some 17) Tryd.func22 #[.agg #[.int .u8 ((rd_T40 l0_1 a1).f0), .int .u8 ((rd_T40 l0_1 a1).f1), .int .u8 ((rd_T40 l0_1 a1).f2), .int .i16 ((rd_T40 l0_1 a1).f3), .int .i32 ((rd_T40 l0_1 a1).f4)]] ?_; (with_reducible refine (insn_Of.calls k ((rd_T40 l0_1 a1).f0) ((rd_T40 l0_1 a1).f1) ((rd_T40 l0_1 a1).f2) ((rd_T40 l0_1 a1).f3) ((rd_T40 l0_1 a1).f4) t169 t170 t171 t172 t173 t174 _ ?side1 A5.out).mono ?_); (case side1 => exact Kd.C_below HRG0.out b_now); rintro e w165 ⟨rfl, hb⟩; refine ⟨_, rfl, ?_⟩; replace BK165 := sh_kp (g := gb165) (t := 25) #[.slice A0_0 l0_0.length c0_0, .slice (some ad167) l0_1.length c0_1] hb; replace BK166 := sh_kp (g := gb166) (t := 45) #[.int .i64 0, .int .i64 0, .int .i64 0, .bool false, .bool false] hb; replace BK168 := sh_kp (g := gb168) (t := 40) #[.int .u8 ((rd_T40 l0_1 a1).f0), .int .u8 ((rd_T40 l0_1 a1).f1), .int .u8 ((rd_T40 l0_1 a1).f2), .int .i16 ((rd_T40 l0_1 a1).f3), .int .i32 ((rd_T40 l0_1 a1).f4)] hb; replace HB := sh_b (w := w) hb; (try clear hb); (try clear hb2); (try clear hk); (try clear hi)) | ((with_reducible refine gate_dst (N := 7) rfl ?_); (try (refine gate_guard (by rfl) ?_; dsimp only)); refine sh_box 7 #[.int .i64 0, .int .i64 0, .int .i64 0, .bool false, .bool false] 45 ?_; intro gb175 hg w166 hbox hb; have GE175 := sh_z (w := w) hg; have NB165_175 := sh_n BK165 hg; have NB166_175 := sh_n BK166 hg; have NB168_175 := sh_n BK168 hg; have NB175_165 := sh_s NB165_175; have NB175_166 := sh_s NB166_175; have NB175_168 := sh_s NB168_175; replace BK165 := sh_k BK165 hb; replace BK166 := sh_k BK166 hb; replace BK168 := sh_k BK168 hb; replace HB := sh_b (w := w) hb; have BK175 := Aside0.mk (hbox); clear hb hbox hg; have hnb167 := NB175_165.out; have hnc167 := NB165_175.out; have hnb168 := NB175_166.out; have hnc168 := NB166_175.out; have hnb169 := NB175_168.out; have hnc169 := NB168_175.out; have hcz170 := blk_all5 BK175.out; have hcz171 := blk_all5 BK166.out))
    refine bodyPost_ret (results_ct rfl _ _ gb166 45 #[.int .i64 t169, .int .i64 t170, .int .i64 t171, .bool t172, .bool t173] (0, 0) _ rfl bk_now Tryd.underlying45 rfl (by kernel_rfl)) rfl ?_
    exact ⟨ret_now, b_now⟩
  ·rw [if_neg c4] at H
   exact absurd H (by simp)
 ·rw [if_neg c3] at H
  exact absurd H (by simp)

end Go.Proofs.YtdhiibkcoolbeaaDoor.P
