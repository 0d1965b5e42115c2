/- Made by this session's driver over the kit's printer: for each Go function a Lean function with the same answers, and a proof that the Go call comes to these answers; no conditions but the ones each theorem names. -/
import Derived.Test.YtighficpbplkhaaDoorPx0
import Derived.Test.YtighficpbplkhaaDoorPx2
import Derived.Test.YtighficpbplkhaaDoorPx4
import Derived.Test.YtighficpbplkhaaDoorPx10
import Derived.Test.YtighficpbplkhaaDoorPx21
import Derived.Test.YtighficpbplkhaaDoorPx23
import Derived.Test.YtighficpbplkhaaDoorPx24
import Derived.Test.YtighficpbplkhaaDoorPx26
import Derived.Test.YtighficpbplkhaaDoorPx27
namespace Go.Proofs.YtighficpbplkhaaDoor.P
open Go.RowKit Go.Proofs.YtighficpbplkhaaDoorW.PrintWords Go.Proofs.YtighficpbplkhaaDoorW.PrintLast Go.Proofs.YtighficpbplkhaaDoorW.PrintMore
attribute [local go_sem] max2_int min2_int max_two min_two max_three min_three max_four min_four   -- for this text's walks alone
set_option linter.unusedVariables false
set_option linter.unusedSimpArgs false

/-! ### stockadelaw18_RuleChecks: function 3 -/
def stockadelaw18_RuleChecks.f (k : Nat) (l0 : List (S46)) : Option (Bool) := (stockadelaw18_large.f k l0).bind fun t354 => (if t354 = true then ((stockadelaw18_wakes.f k).bind fun t355 => (some t355)) else ((stockadelaw18_Table.f k l0).bind fun t356 => ((rule_Check.f k t356).bind fun bt359 => ((stockaderef18_Check.f k l0).bind fun bt361 => ((rule_Print.f k t356).bind fun bt363 => ((stockaderef18_Print.f k l0).bind fun bt365 => (if bt359.1 = bt361.1 then (if bt359.2 = bt361.2 then (if bt363.1.toList = bt365.1.toList then (if bt363.2 = bt365.2 then ((stockadelaw18_Is.f k t356 l0).bind fun t367 => (if t367 = true then ((stockadelaw18_wakes.f k).bind fun t368 => (some t368)) else (some false))) else (some false)) else (some false)) else (some false)) else (some false))))))))
theorem stockadelaw18_RuleChecks.mono : ∀ a0 k, LeO (stockadelaw18_RuleChecks.f k a0) (stockadelaw18_RuleChecks.f (k + 1) a0) := by
 intro a0 k
 unfold stockadelaw18_RuleChecks.f
 repeat' first
   | (with_reducible exact rule_Check.mono _ _)
   | (with_reducible exact rule_Print.mono _ _)
   | (with_reducible exact stockadelaw18_Is.mono _ _ _)
   | (with_reducible exact stockadelaw18_Table.mono _ _)
   | (with_reducible exact stockadelaw18_large.mono _ _)
   | (with_reducible exact stockadelaw18_wakes.mono _)
   | (with_reducible exact stockaderef18_Check.mono _ _)
   | (with_reducible exact stockaderef18_Print.mono _ _)
   | (with_reducible exact LeO.refl _)
   | (with_reducible exact LeO.none _)
   | (with_reducible refine LeO.ite ?_ ?_)
   | (with_reducible refine LeO.bind ?_ (fun _ => ?_))
   | exact rule_Check.mono _ _
   | exact rule_Print.mono _ _
   | exact stockadelaw18_Is.mono _ _ _
   | exact stockadelaw18_Table.mono _ _
   | exact stockadelaw18_large.mono _ _
   | exact stockadelaw18_wakes.mono _
   | exact stockaderef18_Check.mono _ _
   | exact stockaderef18_Print.mono _ _
   | exact LeO.none _
   | refine LeO.ite ?_ ?_
   | refine LeO.bind ?_ (fun _ => ?_)
set_option maxHeartbeats 8000000 in
set_option maxRecDepth 100000 in
theorem stockadelaw18_RuleChecks.calls (k : Nat) (A0 : Option Addr) (c0 : Nat) (l0 : List (S46)) (r : Bool) (w : World) (hr0 : Kd.C k46 w A0 l0.length l0) (hc0 : l0.length ≤ c0) (hrG0 : Kd.C kGF w (some ⟨0, 0, none⟩) gl0.length gl0) (hr_ : r = true) (h : stockadelaw18_RuleChecks.f k l0 = some r) :
  Calls Tryd.prog 3 #[.slice A0 l0.length c0] w fun e w' => e = .returned (.bool r) ∧ Below w.heap.size w w' := by
 have HR0 := Aside0.mk hr0
 have HC0 := Aside0.mk hc0
 clear hr0 hc0
 have HRG0 := Aside0.mk hrG0
 clear hrG0
 have HRT := Aside0.mk hr_
 clear hr_
 have HB := Aside0.mk (Below.refl w.heap.size w)
 have H : ((stockadelaw18_large.f k l0).bind fun t354 => (if t354 = true then ((stockadelaw18_wakes.f k).bind fun t355 => (some t355)) else ((stockadelaw18_Table.f k l0).bind fun t356 => ((rule_Check.f k t356).bind fun bt359 => ((stockaderef18_Check.f k l0).bind fun bt361 => ((rule_Print.f k t356).bind fun bt363 => ((stockaderef18_Print.f k l0).bind fun bt365 => (if bt359.1 = bt361.1 then (if bt359.2 = bt361.2 then (if bt363.1.toList = bt365.1.toList then (if bt363.2 = bt365.2 then ((stockadelaw18_Is.f k t356 l0).bind fun t367 => (if t367 = true then ((stockadelaw18_wakes.f k).bind fun t368 => (some t368)) else (some false))) else (some false)) else (some false)) else (some false)) else (some false))))))))) = some r := h
 clear h
 replace H := Option.bind_eq_some_iff.mp H; obtain ⟨t354, A20, H⟩ := H; try dsimp only at H
 have A2 := Aside0.mk A20
 clear A20
 by_cases c3 : t354 = true
 ·subst c3
  replace H := sh_t H
  replace H := Option.bind_eq_some_iff.mp H; obtain ⟨t355, A40, H⟩ := H; try dsimp only at H
  have A4 := Aside0.mk A40
  clear A40
  obtain rfl := Option.some.inj H
  go_enter Tryd.func3, Tryd.ntmps3
  go_wp2_with (first | ((with_reducible refine gate_callee (f := 10) rfl ?_); refine sh_call (some 13) Tryd.func10 #[.slice A0 l0.length c0] ?_; (with_reducible refine (stockadelaw18_large.calls k _ _ l0 true _ ?side1 ?side2 A2.out).mono ?_); (case side1 => repeat (first | exact HR0.out | (with_reducible refine Kd.C_alloc ?_ _) | (with_reducible refine Kd.C_drewN ?_ _) | (with_reducible refine Kd.C_drew ?_))); (case side2 => exact HC0.out); rintro e w' ⟨rfl, ⟨nd, rfl⟩⟩; refine ⟨_, rfl, ?_⟩) | ((with_reducible refine gate_callee (f := 11) rfl ?_); refine sh_call (some 14) Tryd.func11 #[] ?_; (with_reducible refine (stockadelaw18_wakes.calls k  t355 _ ?side1 (by first | rfl | exact HRT.out) A4.out).mono ?_); (case side1 => repeat (first | exact HRG0.out | (with_reducible refine Kd.C_alloc ?_ _) | (with_reducible refine Kd.C_drewN ?_ _) | (with_reducible refine Kd.C_drew ?_))); rintro e w5 ⟨rfl, hb⟩; refine ⟨_, rfl, ?_⟩; replace HB := sh_b (w := w) hb; (try clear hb); (try clear hb2); (try clear hk); (try clear hi)))
  go_ret
  exact ⟨ret_now, b_now⟩
 ·replace c3 := Bool.eq_false_iff.mpr c3
  subst c3
  replace H := sh_f H
  replace H := Option.bind_eq_some_iff.mp H; obtain ⟨t356, A60, H⟩ := H; try dsimp only at H
  have A6 := Aside0.mk A60
  clear A60
  replace H := Option.bind_eq_some_iff.mp H; obtain ⟨⟨t359, t360⟩, A70, H⟩ := H; try dsimp only at H
  have A7 := Aside0.mk A70
  clear A70
  replace H := Option.bind_eq_some_iff.mp H; obtain ⟨⟨t361, t362⟩, A80, H⟩ := H; try dsimp only at H
  have A8 := Aside0.mk A80
  clear A80
  replace H := Option.bind_eq_some_iff.mp H; obtain ⟨⟨t363, t364⟩, A90, H⟩ := H; try dsimp only at H
  have A9 := Aside0.mk A90
  clear A90
  replace H := Option.bind_eq_some_iff.mp H; obtain ⟨⟨t365, t366⟩, A100, H⟩ := H; try dsimp only at H
  have A10 := Aside0.mk A100
  clear A100
  by_cases c11 : t359 = t361
  ·rw [if_pos c11] at H
   have c11b0 : (t359 == t361) = true := beq_iff_eq.mpr c11
   have c11b1 : (t359 != t361) = false := bne_eq_false_iff_eq.mpr c11
   clear c11
   by_cases c12 : t360 = t362
   ·rw [if_pos c12] at H
    have c12b0 : (t360 == t362) = true := beq_iff_eq.mpr c12
    have c12b1 : (t360 != t362) = false := bne_eq_false_iff_eq.mpr c12
    clear c12
    by_cases c13 : t363.toList = t365.toList
    ·rw [if_pos c13] at H
     have c13b0 : (t363.toList == t365.toList) = true := beq_iff_eq.mpr c13
     have c13b1 : (t363.toList != t365.toList) = false := bne_eq_false_iff_eq.mpr c13
     clear c13
     by_cases c14 : t364 = t366
     ·rw [if_pos c14] at H
      have c14b0 : (t364 == t366) = true := beq_iff_eq.mpr c14
      have c14b1 : (t364 != t366) = false := bne_eq_false_iff_eq.mpr c14
      clear c14
      replace H := Option.bind_eq_some_iff.mp H; obtain ⟨t367, A150, H⟩ := H; try dsimp only at H
      have A15 := Aside0.mk A150
      clear A150
      by_cases c16 : t367 = true
      ·subst c16
       replace H := sh_t H
       replace H := Option.bind_eq_some_iff.mp H; obtain ⟨t368, A170, H⟩ := H; try dsimp only at H
       have A17 := Aside0.mk A170
       clear A170
       obtain rfl := Option.some.inj H
       go_enter Tryd.func3, Tryd.ntmps3
       go_wp2_with (first | ((with_reducible refine gate_callee (f := 10) rfl ?_); refine sh_call (some 13) Tryd.func10 #[.slice A0 l0.length c0] ?_; (with_reducible refine (stockadelaw18_large.calls k _ _ l0 false _ ?side1 ?side2 A2.out).mono ?_); (case side1 => repeat (first | exact HR0.out | (with_reducible refine Kd.C_alloc ?_ _) | (with_reducible refine Kd.C_drewN ?_ _) | (with_reducible refine Kd.C_drew ?_))); (case side2 => exact HC0.out); rintro e w' ⟨rfl, ⟨nd, rfl⟩⟩; refine ⟨_, rfl, ?_⟩) | ((with_reducible refine gate_callee (f := 12) rfl ?_); refine sh_call (some 16) Tryd.func12 #[.slice A0 l0.length c0] ?_; (with_reducible refine (stockadelaw18_Table.calls k _ _ l0 t356 _ ?side1 ?side2 A6.out).mono ?_); (case side1 => repeat (first | exact HR0.out | (with_reducible refine Kd.C_alloc ?_ _) | (with_reducible refine Kd.C_drewN ?_ _) | (with_reducible refine Kd.C_drew ?_))); (case side2 => exact HC0.out); rintro e w18 ⟨v357, rfl, ho0, hb⟩; refine ⟨_, rfl, ?_⟩; have HO358 := Aside0.mk (Kd.S_lower ho0 (below_size b_now)); replace HB := sh_b (w := w) hb; (try clear hb); (try clear hb2); (try clear hk); (try clear hi); (try clear ho0); obtain ⟨Ao19, co19, eo19⟩ := Kd.S_slice HO358.out; subst eo19) | ((with_reducible refine gate_callee (f := 13) rfl ?_); refine sh_call (some 19) Tryd.func13 #[.slice Ao19 t356.length co19] ?_; (with_reducible refine (rule_Check.calls k _ _ t356 t359 t360 _ ?side1 ?side2 A7.out).mono ?_); (case side1 => repeat (first | exact (Kd.S_reads' HO358.out).2.2 | (with_reducible refine Kd.C_alloc ?_ _) | (with_reducible refine Kd.C_drewN ?_ _) | (with_reducible refine Kd.C_drew ?_))); (case side2 => exact (Kd.S_reads' HO358.out).2.1); rintro e w20 ⟨rfl, hb⟩; refine ⟨_, rfl, ?_⟩; replace HO358 := Aside0.mk (Kd.S_below (by (with_reducible repeat (first | apply Kd.S_alloc | apply Kd.S_drewN | apply Kd.S_drew)); exact HO358.out) hb); replace HB := sh_b (w := w) hb; (try clear hb); (try clear hb2); (try clear hk); (try clear hi)) | ((with_reducible refine gate_callee (f := 14) rfl ?_); refine sh_call (some 24) Tryd.func14 #[.slice A0 l0.length c0] ?_; (with_reducible refine (stockaderef18_Check.calls k _ _ l0 t361 t362 _ ?side1 ?side2 A8.out).mono ?_); (case side1 => repeat (first | exact (Kd.C_below HR0.out HB.out) | (with_reducible refine Kd.C_alloc ?_ _) | (with_reducible refine Kd.C_drewN ?_ _) | (with_reducible refine Kd.C_drew ?_))); (case side2 => exact HC0.out); rintro e w21 ⟨rfl, hb⟩; refine ⟨_, rfl, ?_⟩; replace HO358 := Aside0.mk (Kd.S_below (by (with_reducible repeat (first | apply Kd.S_alloc | apply Kd.S_drewN | apply Kd.S_drew)); exact HO358.out) hb); replace HB := sh_b (w := w) hb; (try clear hb); (try clear hb2); (try clear hk); (try clear hi)) | ((with_reducible refine gate_callee (f := 15) rfl ?_); refine sh_call (some 29) Tryd.func15 #[.slice Ao19 t356.length co19] ?_; (with_reducible refine (rule_Print.calls k _ _ t356 t363 t364 _ ?side1 ?side2 ?side3 A9.out).mono ?_); (case side1 => repeat (first | exact (Kd.S_reads' HO358.out).2.2 | (with_reducible refine Kd.C_alloc ?_ _) | (with_reducible refine Kd.C_drewN ?_ _) | (with_reducible refine Kd.C_drew ?_))); (case side2 => exact (Kd.S_reads' HO358.out).2.1); (case side3 => repeat (first | exact (Kd.C_below HRG0.out HB.out) | (with_reducible refine Kd.C_alloc ?_ _) | (with_reducible refine Kd.C_drewN ?_ _) | (with_reducible refine Kd.C_drew ?_))); rintro e w22 ⟨rfl, hb⟩; refine ⟨_, rfl, ?_⟩; replace HO358 := Aside0.mk (Kd.S_below (by (with_reducible repeat (first | apply Kd.S_alloc | apply Kd.S_drewN | apply Kd.S_drew)); exact HO358.out) hb); replace HB := sh_b (w := w) hb; (try clear hb); (try clear hb2); (try clear hk); (try clear hi)) | ((with_reducible refine gate_callee (f := 16) rfl ?_); refine sh_call (some 34) Tryd.func16 #[.slice A0 l0.length c0] ?_; (with_reducible refine (stockaderef18_Print.calls k _ _ l0 t365 t366 _ ?side1 ?side2 A10.out).mono ?_); (case side1 => repeat (first | exact (Kd.C_below HR0.out HB.out) | (with_reducible refine Kd.C_alloc ?_ _) | (with_reducible refine Kd.C_drewN ?_ _) | (with_reducible refine Kd.C_drew ?_))); (case side2 => exact HC0.out); rintro e w23 ⟨rfl, hb⟩; refine ⟨_, rfl, ?_⟩; replace HO358 := Aside0.mk (Kd.S_below (by (with_reducible repeat (first | apply Kd.S_alloc | apply Kd.S_drewN | apply Kd.S_drew)); exact HO358.out) hb); replace HB := sh_b (w := w) hb; (try clear hb); (try clear hb2); (try clear hk); (try clear hi)) | (go_at_call 17; (with_reducible refine (stockadelaw18_Is.calls k _ _ t356 _ _ l0 true _ ?side1 ?side2 ?side3 ?side4 A15.out).mono ?_); (case side1 => repeat (first | exact (Kd.S_reads' HO358.out).2.2 | (with_reducible refine Kd.C_alloc ?_ _) | (with_reducible refine Kd.C_drewN ?_ _) | (with_reducible refine Kd.C_drew ?_))); (case side2 => exact (Kd.S_reads' HO358.out).2.1); (case side3 => repeat (first | exact (Kd.C_below HR0.out HB.out) | (with_reducible refine Kd.C_alloc ?_ _) | (with_reducible refine Kd.C_drewN ?_ _) | (with_reducible refine Kd.C_drew ?_))); (case side4 => exact HC0.out); rintro e w24 ⟨rfl, hb⟩; replace HO358 := Aside0.mk (Kd.S_below (by (with_reducible repeat (first | apply Kd.S_alloc | apply Kd.S_drewN | apply Kd.S_drew)); exact HO358.out) hb); replace HB := sh_b (w := w) hb; (try clear hb); (try clear hb2); (try clear hk); (try clear hi)) | (go_at_call 11; (with_reducible refine (stockadelaw18_wakes.calls k  t368 _ ?side1 (by first | rfl | exact HRT.out) A17.out).mono ?_); (case side1 => repeat (first | exact (Kd.C_below HRG0.out HB.out) | (with_reducible refine Kd.C_alloc ?_ _) | (with_reducible refine Kd.C_drewN ?_ _) | (with_reducible refine Kd.C_drew ?_))); rintro e w25 ⟨rfl, hb⟩; replace HO358 := Aside0.mk (Kd.S_below (by (with_reducible repeat (first | apply Kd.S_alloc | apply Kd.S_drewN | apply Kd.S_drew)); exact HO358.out) hb); replace HB := sh_b (w := w) hb; (try clear hb); (try clear hb2); (try clear hk); (try clear hi)))
       go_ret
       exact ⟨ret_now, b_now⟩
      ·replace c16 := Bool.eq_false_iff.mpr c16
       subst c16
       replace H := sh_f H
       obtain rfl := Option.some.inj H
       exact absurd HRT.out (by simp)
     ·rw [if_neg c14] at H
      have c14b0 : (t364 == t366) = false := beq_eq_false_iff_ne.mpr c14
      have c14b1 : (t364 != t366) = true := bne_iff_ne.mpr c14
      obtain rfl := Option.some.inj H
      exact absurd HRT.out (by simp)
    ·rw [if_neg c13] at H
     have c13b0 : (t363.toList == t365.toList) = false := beq_eq_false_iff_ne.mpr c13
     have c13b1 : (t363.toList != t365.toList) = true := bne_iff_ne.mpr c13
     obtain rfl := Option.some.inj H
     exact absurd HRT.out (by simp)
   ·rw [if_neg c12] at H
    have c12b0 : (t360 == t362) = false := beq_eq_false_iff_ne.mpr c12
    have c12b1 : (t360 != t362) = true := bne_iff_ne.mpr c12
    obtain rfl := Option.some.inj H
    exact absurd HRT.out (by simp)
  ·rw [if_neg c11] at H
   have c11b0 : (t359 == t361) = false := beq_eq_false_iff_ne.mpr c11
   have c11b1 : (t359 != t361) = true := bne_iff_ne.mpr c11
   obtain rfl := Option.some.inj H
   exact absurd HRT.out (by simp)
end Go.Proofs.YtighficpbplkhaaDoor.P
