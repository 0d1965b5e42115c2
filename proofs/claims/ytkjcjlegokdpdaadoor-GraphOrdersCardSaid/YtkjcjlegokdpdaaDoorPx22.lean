/- Made by this session's driver over the kit's printer: for each Go function a Lean function with the same answers, and a proof that the Go call comes to these answers; no conditions but the ones each theorem names. -/
import Derived.Test.YtkjcjlegokdpdaaDoorOw
import Derived.Test.YtkjcjlegokdpdaaDoorKp
import Derived.Test.YtkjcjlegokdpdaaDoorPx0
import Derived.Test.YtkjcjlegokdpdaaDoorPx7
import Derived.Test.YtkjcjlegokdpdaaDoorPx9
import Derived.Test.YtkjcjlegokdpdaaDoorPx10
import Derived.Test.YtkjcjlegokdpdaaDoorPx11
import Derived.Test.YtkjcjlegokdpdaaDoorPx17
import Derived.Test.YtkjcjlegokdpdaaDoorPx19
import Derived.Test.YtkjcjlegokdpdaaDoorPx20
import Derived.Test.YtkjcjlegokdpdaaDoorPx21
import Derived.Test.YtkjcjlegokdpdaaDoorPxXXOr
namespace Go.Proofs.YtkjcjlegokdpdaaDoor.P
open Go.RowKit Go.Proofs.YtkjcjlegokdpdaaDoorW.PrintWords Go.Proofs.YtkjcjlegokdpdaaDoorW.PrintLast Go.Proofs.YtkjcjlegokdpdaaDoorW.PrintMore
attribute [local go_sem] max2_int min2_int max_two min_two max_three min_three max_four min_four   -- for this text's walks alone
set_option linter.unusedVariables false
set_option linter.unusedSimpArgs false

/-! ### stockadelaw05_GraphOrders: function 4 -/
def stockadelaw05_GraphOrders.f (k : Nat) (l0 : List (S44)) : Option (Bool) := if (l0.length : Int) > 130 then ((stockadelaw05_wakes.f k).bind fun t486 => (some t486)) else ((stockadelaw05_own.f l0).bind fun t487 => ((graph_Order.f t487).bind fun bt490 => ((graph_Longest.f k t487).bind fun bt494 => ((stockaderef05_All.f k l0).bind fun t496 => ((stockaderef05_Order.f k t496).bind fun bt499 => ((stockaderef05_Longest.f k t496).bind fun bt503 => (if bt490.2 = bt499.2 then (if bt494.2 = bt503.2 then ((stockadelaw05_ints.f k bt490.1 bt499.1).bind fun t505 => (if t505 = true then (if bt494.1 = bt503.1 then ((kept2.f k (t487 ++ [(⟨149, 0, 0, 7, 0⟩ : S44)]) l0).bind fun t506 => (if t506 = true then ((stockadelaw05_wakes.f k).bind fun t507 => (some t507)) else (some false))) else (some false)) else (some false))) else (some false)) else (some false))))))))
theorem stockadelaw05_GraphOrders.mono : ∀ a0 k, LeO (stockadelaw05_GraphOrders.f k a0) (stockadelaw05_GraphOrders.f (k + 1) a0) := by
 intro a0 k
 unfold stockadelaw05_GraphOrders.f
 repeat' first
   | (with_reducible exact graph_Longest.mono _ _)
   | (with_reducible exact stockadelaw05_ints.mono _ _ _)
   | (with_reducible exact kept2.mono _ _ _)
   | (with_reducible exact stockadelaw05_wakes.mono _)
   | (with_reducible exact stockaderef05_All.mono _ _)
   | (with_reducible exact stockaderef05_Longest.mono _ _)
   | (with_reducible exact stockaderef05_Order.mono _ _)
   | (with_reducible exact LeO.refl _)
   | (with_reducible exact LeO.none _)
   | (with_reducible refine LeO.ite ?_ ?_)
   | (with_reducible refine LeO.bind ?_ (fun _ => ?_))
   | exact graph_Longest.mono _ _
   | exact stockadelaw05_ints.mono _ _ _
   | exact kept2.mono _ _ _
   | exact stockadelaw05_wakes.mono _
   | exact stockaderef05_All.mono _ _
   | exact stockaderef05_Longest.mono _ _
   | exact stockaderef05_Order.mono _ _
   | exact LeO.none _
   | refine LeO.ite ?_ ?_
   | refine LeO.bind ?_ (fun _ => ?_)
set_option maxHeartbeats 8000000 in
set_option maxRecDepth 100000 in
theorem stockadelaw05_GraphOrders.calls (k : Nat) (A0 : Option Addr) (c0 : Nat) (l0 : List (S44)) (r : Bool) (w : World) (hr0 : Kd.C k44 w A0 l0.length l0) (hc0 : l0.length ≤ c0) (hrG0 : Kd.C (Kd.int .i64) w (some ⟨0, 0, none⟩) gl0.length gl0) (hr_ : r = true) (h : stockadelaw05_GraphOrders.f k l0 = some r) :
  Calls Tryd.prog 4 #[.slice A0 l0.length c0] w fun e w' => e = .returned (.bool r) ∧ Below w.heap.size w w' := by
 have HR0 := Aside0.mk hr0
 have HC0 := Aside0.mk hc0
 clear hr0 hc0
 have HRG0 := Aside0.mk hrG0
 clear hrG0
 have HRT := Aside0.mk hr_
 clear hr_
 have HB := Aside0.mk (Below.refl w.heap.size w)
 have H : (if (l0.length : Int) > 130 then ((stockadelaw05_wakes.f k).bind fun t486 => (some t486)) else ((stockadelaw05_own.f l0).bind fun t487 => ((graph_Order.f t487).bind fun bt490 => ((graph_Longest.f k t487).bind fun bt494 => ((stockaderef05_All.f k l0).bind fun t496 => ((stockaderef05_Order.f k t496).bind fun bt499 => ((stockaderef05_Longest.f k t496).bind fun bt503 => (if bt490.2 = bt499.2 then (if bt494.2 = bt503.2 then ((stockadelaw05_ints.f k bt490.1 bt499.1).bind fun t505 => (if t505 = true then (if bt494.1 = bt503.1 then ((kept2.f k (t487 ++ [(⟨149, 0, 0, 7, 0⟩ : S44)]) l0).bind fun t506 => (if t506 = true then ((stockadelaw05_wakes.f k).bind fun t507 => (some t507)) else (some false))) else (some false)) else (some false))) else (some false)) else (some false))))))))) = some r := h
 clear h
 by_cases c2 : (l0.length : Int) > 130
 ·rw [if_pos c2] at H
  have c2b0 : decide (130 < (l0.length : Int)) = true := decide_eq_true c2
  have c2b1 : decide (130 < l0.length) = true := decide_eq_true (by omega)
  clear c2
  replace H := Option.bind_eq_some_iff.mp H; obtain ⟨t486, A30, H⟩ := H; try dsimp only at H
  have A3 := Aside0.mk A30
  clear A30
  obtain rfl := Option.some.inj H
  go_enter Tryd.func4, Tryd.ntmps4
  go_wp2_with (first | ((with_reducible refine gate_callee (f := 10) rfl ?_); refine sh_call (some 16) Tryd.func10 #[] ?_; (with_reducible refine (stockadelaw05_wakes.calls k  t486 _ ?side1 (by first | rfl | exact HRT.out) A3.out).mono ?_); (case side1 => repeat (first | exact HRG0.out | (with_reducible refine Kd.C_alloc ?_ _) | (with_reducible refine Kd.C_drewN ?_ _) | (with_reducible refine Kd.C_drew ?_))); rintro e w4 ⟨rfl, hb⟩; refine ⟨_, rfl, ?_⟩; replace HB := sh_b (w := w) hb; (try clear hb); (try clear hb2); (try clear hk); (try clear hi)))
  go_ret
  exact ⟨ret_now, b_now⟩
 ·rw [if_neg c2] at H
  have c2b0 : decide (130 < (l0.length : Int)) = false := decide_eq_false c2
  have c2b1 : decide (130 < l0.length) = false := decide_eq_false (by omega)
  clear c2
  replace H := Option.bind_eq_some_iff.mp H; obtain ⟨t487, A50, H⟩ := H; try dsimp only at H
  have A5 := Aside0.mk A50
  clear A50
  replace H := Option.bind_eq_some_iff.mp H; obtain ⟨⟨t490, t491⟩, A60, H⟩ := H; try dsimp only at H
  have A6 := Aside0.mk A60
  clear A60
  replace H := Option.bind_eq_some_iff.mp H; obtain ⟨⟨t494, t495⟩, A70, H⟩ := H; try dsimp only at H
  have A7 := Aside0.mk A70
  clear A70
  replace H := Option.bind_eq_some_iff.mp H; obtain ⟨t496, A80, H⟩ := H; try dsimp only at H
  have A8 := Aside0.mk A80
  clear A80
  replace H := Option.bind_eq_some_iff.mp H; obtain ⟨⟨t499, t500⟩, A90, H⟩ := H; try dsimp only at H
  have A9 := Aside0.mk A90
  clear A90
  replace H := Option.bind_eq_some_iff.mp H; obtain ⟨⟨t503, t504⟩, A100, H⟩ := H; try dsimp only at H
  have A10 := Aside0.mk A100
  clear A100
  by_cases c11 : t491 = t500
  ·rw [if_pos c11] at H
   have c11b0 : (t491 == t500) = true := beq_iff_eq.mpr c11
   have c11b1 : (t491 != t500) = false := bne_eq_false_iff_eq.mpr c11
   clear c11
   by_cases c12 : t495 = t504
   ·rw [if_pos c12] at H
    have c12b0 : (t495 == t504) = true := beq_iff_eq.mpr c12
    have c12b1 : (t495 != t504) = false := bne_eq_false_iff_eq.mpr c12
    clear c12
    replace H := Option.bind_eq_some_iff.mp H; obtain ⟨t505, A130, H⟩ := H; try dsimp only at H
    have A13 := Aside0.mk A130
    clear A130
    by_cases c14 : t505 = true
    ·subst c14
     replace H := sh_t H
     by_cases c15 : t494 = t503
     ·rw [if_pos c15] at H
      have c15b0 : (t494 == t503) = true := beq_iff_eq.mpr c15
      have c15b1 : (t494 != t503) = false := bne_eq_false_iff_eq.mpr c15
      clear c15
      replace H := Option.bind_eq_some_iff.mp H; obtain ⟨t506, A160, H⟩ := H; try dsimp only at H
      have A16 := Aside0.mk A160
      clear A160
      by_cases c17 : t506 = true
      ·subst c17
       replace H := sh_t H
       replace H := Option.bind_eq_some_iff.mp H; obtain ⟨t507, A180, H⟩ := H; try dsimp only at H
       have A18 := Aside0.mk A180
       clear A180
       obtain rfl := Option.some.inj H
       go_enter Tryd.func4, Tryd.ntmps4
       go_wp2_with (first | ((with_reducible refine gate_callee (f := 11) rfl ?_); refine sh_call (some 18) Tryd.func11 #[.slice A0 l0.length c0] ?_; (with_reducible refine (own_calls3 _ _ l0 t487 _ ?side1 ?side2 A5.out).mono ?_); (case side1 => repeat (first | exact HR0.out | (with_reducible refine Kd.C_alloc ?_ _) | (with_reducible refine Kd.C_drewN ?_ _) | (with_reducible refine Kd.C_drew ?_))); (case side2 => exact HC0.out); rintro e w19 ⟨v488, rfl, ho0, hx0, hb⟩; refine ⟨_, rfl, ?_⟩; have HO489 := Aside0.mk (Kd.R_lower ho0 (below_size b_now)); obtain ⟨Ax_, cx_, ex_, hx1⟩ := hx0; have HX := Aside0.mk (Kd.R_lower hx1 (below_size b_now)); clear hx1; replace HB := sh_b (w := w) hb; (try clear hb); (try clear hb2); (try clear hk); (try clear hi); (try clear ho0); obtain ⟨Ao20, co20, eo20⟩ := Kd.R_slice HO489.out; subst eo20; obtain ⟨rfl, rfl⟩ : Ao20 = Ax_ ∧ co20 = cx_ := (by injection ex_ with e1_ e2_ e3_; exact ⟨e1_, e3_⟩)) | ((with_reducible refine gate_callee (f := 16) rfl ?_); refine sh_call (some 21) Tryd.func16 #[.slice Ao20 t487.length co20] ?_; (with_reducible refine (graph_Order.calls _ _ t487 t490 t491 _ ?side1 ?side2 ?side3 A6.out).mono ?_); (case side1 => repeat (first | exact (Kd.R_reads' HO489.out).2.2 | (with_reducible refine Kd.C_alloc ?_ _) | (with_reducible refine Kd.C_drewN ?_ _) | (with_reducible refine Kd.C_drew ?_))); (case side2 => exact (Kd.R_reads' HO489.out).2.1); (case side3 => repeat (first | exact (Kd.C_below HRG0.out HB.out) | (with_reducible refine Kd.C_alloc ?_ _) | (with_reducible refine Kd.C_drewN ?_ _) | (with_reducible refine Kd.C_drew ?_))); rintro e w21 ⟨v492, rfl, ho0, hb⟩; refine ⟨_, rfl, ?_⟩; have HO493 := Aside0.mk (Kd.R_lower ho0 (below_size b_now)); replace HO489 := Aside0.mk (Kd.R_below (by (with_reducible repeat (first | apply Kd.R_alloc | apply Kd.R_drewN | apply Kd.R_drew)); exact HO489.out) hb); replace HX := Aside0.mk (Kd.R_below (by (with_reducible repeat (first | apply Kd.R_alloc | apply Kd.R_drewN | apply Kd.R_drew)); exact HX.out) hb); replace HB := sh_b (w := w) hb; (try clear hb); (try clear hb2); (try clear hk); (try clear hi); (try clear ho0)) | ((with_reducible refine gate_callee (f := 17) rfl ?_); refine sh_call (some 26) Tryd.func17 #[.slice Ao20 t487.length co20] ?_; (with_reducible refine (graph_Longest.calls k _ _ t487 t494 t495 _ ?side1 ?side2 ?side3 A7.out).mono ?_); (case side1 => repeat (first | exact (Kd.R_reads' HO489.out).2.2 | (with_reducible refine Kd.C_alloc ?_ _) | (with_reducible refine Kd.C_drewN ?_ _) | (with_reducible refine Kd.C_drew ?_))); (case side2 => exact (Kd.R_reads' HO489.out).2.1); (case side3 => repeat (first | exact (Kd.C_below HRG0.out HB.out) | (with_reducible refine Kd.C_alloc ?_ _) | (with_reducible refine Kd.C_drewN ?_ _) | (with_reducible refine Kd.C_drew ?_))); rintro e w22 ⟨rfl, hb⟩; refine ⟨_, rfl, ?_⟩; replace HO489 := Aside0.mk (Kd.R_below (by (with_reducible repeat (first | apply Kd.R_alloc | apply Kd.R_drewN | apply Kd.R_drew)); exact HO489.out) hb); replace HX := Aside0.mk (Kd.R_below (by (with_reducible repeat (first | apply Kd.R_alloc | apply Kd.R_drewN | apply Kd.R_drew)); exact HX.out) hb); replace HO493 := Aside0.mk (Kd.R_below (by (with_reducible repeat (first | apply Kd.R_alloc | apply Kd.R_drewN | apply Kd.R_drew)); exact HO493.out) hb); replace HB := sh_b (w := w) hb; (try clear hb); (try clear hb2); (try clear hk); (try clear hi)) | ((with_reducible refine gate_callee (f := 18) rfl ?_); refine sh_call (some 30) Tryd.func18 #[.slice A0 l0.length c0] ?_; (with_reducible refine (stockaderef05_All.calls k _ _ l0 t496 _ ?side1 ?side2 A8.out).mono ?_); (case side1 => repeat (first | exact (Kd.C_below HR0.out HB.out) | (with_reducible refine Kd.C_alloc ?_ _) | (with_reducible refine Kd.C_drewN ?_ _) | (with_reducible refine Kd.C_drew ?_))); (case side2 => exact HC0.out); rintro e w23 ⟨v497, rfl, ho0, hb⟩; refine ⟨_, rfl, ?_⟩; have HO498 := Aside0.mk (Kd.S_lower (Kd.S_new' ho0 (Kd.R_lt (by (with_reducible repeat (first | apply Kd.R_alloc | apply Kd.R_drewN | apply Kd.R_drew)); exact HO493.out))) (below_size b_now)); replace HO489 := Aside0.mk (Kd.R_below (by (with_reducible repeat (first | apply Kd.R_alloc | apply Kd.R_drewN | apply Kd.R_drew)); exact HO489.out) hb); replace HX := Aside0.mk (Kd.R_below (by (with_reducible repeat (first | apply Kd.R_alloc | apply Kd.R_drewN | apply Kd.R_drew)); exact HX.out) hb); replace HO493 := Aside0.mk (Kd.R_below (by (with_reducible repeat (first | apply Kd.R_alloc | apply Kd.R_drewN | apply Kd.R_drew)); exact HO493.out) hb); replace HB := sh_b (w := w) hb; (try clear hb); (try clear hb2); (try clear hk); (try clear hi); (try clear ho0); obtain ⟨Ao24, co24, eo24⟩ := Kd.S_slice HO498.out; subst eo24) | ((with_reducible refine gate_callee (f := 19) rfl ?_); refine sh_call (some 33) Tryd.func19 #[.slice Ao24 t496.length co24] ?_; (with_reducible refine (stockaderef05_Order.calls k _ _ t496 t499 t500 _ ?side1 ?side2 A9.out).mono ?_); (case side1 => repeat (first | exact (Kd.S_reads' HO498.out).2.2 | (with_reducible refine Kd.C_alloc ?_ _) | (with_reducible refine Kd.C_drewN ?_ _) | (with_reducible refine Kd.C_drew ?_))); (case side2 => exact (Kd.S_reads' HO498.out).2.1); rintro e w25 ⟨v501, rfl, ho0, hb⟩; refine ⟨_, rfl, ?_⟩; have HO502 := Aside0.mk (Kd.R_lower (Kd.R_new' ho0 (Kd.R_lt (by (with_reducible repeat (first | apply Kd.R_alloc | apply Kd.R_drewN | apply Kd.R_drew)); exact HO493.out))) (below_size b_now)); replace HO489 := Aside0.mk (Kd.R_below (by (with_reducible repeat (first | apply Kd.R_alloc | apply Kd.R_drewN | apply Kd.R_drew)); exact HO489.out) hb); replace HX := Aside0.mk (Kd.R_below (by (with_reducible repeat (first | apply Kd.R_alloc | apply Kd.R_drewN | apply Kd.R_drew)); exact HX.out) hb); replace HO493 := Aside0.mk (Kd.R_elder' (by (with_reducible repeat (first | apply Kd.R_alloc | apply Kd.R_drewN | apply Kd.R_drew)); exact HO493.out) (Kd.R_base ho0) hb); replace HO498 := Aside0.mk (Kd.S_elder' (by (with_reducible repeat (first | apply Kd.S_alloc | apply Kd.S_drewN | apply Kd.S_drew)); exact HO498.out) (Kd.R_base ho0) hb); replace HB := sh_b (w := w) hb; (try clear hb); (try clear hb2); (try clear hk); (try clear hi); (try clear ho0)) | ((with_reducible refine gate_callee (f := 20) rfl ?_); refine sh_call (some 38) Tryd.func20 #[.slice Ao24 t496.length co24] ?_; (with_reducible refine (stockaderef05_Longest.calls k _ _ t496 t503 t504 _ ?side1 ?side2 A10.out).mono ?_); (case side1 => repeat (first | exact (Kd.S_reads' HO498.out).2.2 | (with_reducible refine Kd.C_alloc ?_ _) | (with_reducible refine Kd.C_drewN ?_ _) | (with_reducible refine Kd.C_drew ?_))); (case side2 => exact (Kd.S_reads' HO498.out).2.1); rintro e w26 ⟨rfl, hb⟩; refine ⟨_, rfl, ?_⟩; replace HO489 := Aside0.mk (Kd.R_below (by (with_reducible repeat (first | apply Kd.R_alloc | apply Kd.R_drewN | apply Kd.R_drew)); exact HO489.out) hb); replace HX := Aside0.mk (Kd.R_below (by (with_reducible repeat (first | apply Kd.R_alloc | apply Kd.R_drewN | apply Kd.R_drew)); exact HX.out) hb); replace HO493 := Aside0.mk (Kd.R_below (by (with_reducible repeat (first | apply Kd.R_alloc | apply Kd.R_drewN | apply Kd.R_drew)); exact HO493.out) hb); replace HO498 := Aside0.mk (Kd.S_below (by (with_reducible repeat (first | apply Kd.S_alloc | apply Kd.S_drewN | apply Kd.S_drew)); exact HO498.out) hb); replace HO502 := Aside0.mk (Kd.R_below (by (with_reducible repeat (first | apply Kd.R_alloc | apply Kd.R_drewN | apply Kd.R_drew)); exact HO502.out) hb); replace HB := sh_b (w := w) hb; (try clear hb); (try clear hb2); (try clear hk); (try clear hi); obtain ⟨Ao27, co27, eo27⟩ := Kd.R_slice HO493.out; subst eo27; obtain ⟨Ao28, co28, eo28⟩ := Kd.R_slice HO502.out; subst eo28) | (go_at_call 14; (with_reducible refine (stockadelaw05_ints.calls k _ _ t490 _ _ t499 true _ ?side1 ?side2 ?side3 ?side4 A13.out).mono ?_); (case side1 => repeat (first | exact (Kd.R_reads' HO493.out).2.2 | (with_reducible refine Kd.C_alloc ?_ _) | (with_reducible refine Kd.C_drewN ?_ _) | (with_reducible refine Kd.C_drew ?_))); (case side2 => exact (Kd.R_reads' HO493.out).2.1); (case side3 => repeat (first | exact (Kd.R_reads' HO502.out).2.2 | (with_reducible refine Kd.C_alloc ?_ _) | (with_reducible refine Kd.C_drewN ?_ _) | (with_reducible refine Kd.C_drew ?_))); (case side4 => exact (Kd.R_reads' HO502.out).2.1); rintro e w' ⟨rfl, ⟨nd, rfl⟩⟩) | (go_at_call 15; (with_reducible refine (kept3 k _ _ t487 _ _ l0 true _ (own_is A5.out) ?side1 ?side2 ?side3 ?side4 A16.out).mono ?_); (case side1 => repeat (first | exact (Kd.R_reads' HX.out).2.2 | (with_reducible refine Kd.C_alloc ?_ _) | (with_reducible refine Kd.C_drewN ?_ _) | (with_reducible refine Kd.C_drew ?_))); (case side2 => exact (Kd.R_reads' HX.out).2.1); (case side3 => repeat (first | exact (Kd.C_below HR0.out b_now) | (with_reducible refine Kd.C_alloc ?_ _) | (with_reducible refine Kd.C_drewN ?_ _) | (with_reducible refine Kd.C_drew ?_))); (case side4 => exact HC0.out); rintro e w' ⟨rfl, ⟨nd, rfl⟩⟩) | (go_at_call 10; (with_reducible refine (stockadelaw05_wakes.calls k  t507 _ ?side1 (by first | rfl | exact HRT.out) A18.out).mono ?_); (case side1 => repeat (first | exact (Kd.C_below HRG0.out b_now) | (with_reducible refine Kd.C_alloc ?_ _) | (with_reducible refine Kd.C_drewN ?_ _) | (with_reducible refine Kd.C_drew ?_))); rintro e w29 ⟨rfl, hb⟩; replace HO489 := Aside0.mk (Kd.R_below (by (with_reducible repeat (first | apply Kd.R_alloc | apply Kd.R_drewN | apply Kd.R_drew)); exact HO489.out) hb); replace HX := Aside0.mk (Kd.R_below (by (with_reducible repeat (first | apply Kd.R_alloc | apply Kd.R_drewN | apply Kd.R_drew)); exact HX.out) hb); replace HO493 := Aside0.mk (Kd.R_below (by (with_reducible repeat (first | apply Kd.R_alloc | apply Kd.R_drewN | apply Kd.R_drew)); exact HO493.out) hb); replace HO498 := Aside0.mk (Kd.S_below (by (with_reducible repeat (first | apply Kd.S_alloc | apply Kd.S_drewN | apply Kd.S_drew)); exact HO498.out) hb); replace HO502 := Aside0.mk (Kd.R_below (by (with_reducible repeat (first | apply Kd.R_alloc | apply Kd.R_drewN | apply Kd.R_drew)); exact HO502.out) hb); replace HB := sh_b (w := w) hb; (try clear hb); (try clear hb2); (try clear hk); (try clear hi)))
       go_ret
       exact ⟨ret_now, b_now⟩
      ·replace c17 := Bool.eq_false_iff.mpr c17
       subst c17
       replace H := sh_f H
       obtain rfl := Option.some.inj H
       exact absurd HRT.out (by simp)
     ·rw [if_neg c15] at H
      have c15b0 : (t494 == t503) = false := beq_eq_false_iff_ne.mpr c15
      have c15b1 : (t494 != t503) = true := bne_iff_ne.mpr c15
      obtain rfl := Option.some.inj H
      exact absurd HRT.out (by simp)
    ·replace c14 := Bool.eq_false_iff.mpr c14
     subst c14
     replace H := sh_f H
     obtain rfl := Option.some.inj H
     exact absurd HRT.out (by simp)
   ·rw [if_neg c12] at H
    have c12b0 : (t495 == t504) = false := beq_eq_false_iff_ne.mpr c12
    have c12b1 : (t495 != t504) = true := bne_iff_ne.mpr c12
    obtain rfl := Option.some.inj H
    exact absurd HRT.out (by simp)
  ·rw [if_neg c11] at H
   have c11b0 : (t491 == t500) = false := beq_eq_false_iff_ne.mpr c11
   have c11b1 : (t491 != t500) = true := bne_iff_ne.mpr c11
   obtain rfl := Option.some.inj H
   exact absurd HRT.out (by simp)

end Go.Proofs.YtkjcjlegokdpdaaDoor.P
