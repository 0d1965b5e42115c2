/- Made by this session's driver over the kit's printer: for each Go function a Lean function with the same answers, and a proof that the Go call comes to these answers; no conditions but the ones each theorem names. -/
import Derived.Test.YtdhiibkcoolbeaaDoorPx0
import Derived.Test.YtdhiibkcoolbeaaDoorPx4
import Derived.Test.YtdhiibkcoolbeaaDoorPx15
import Derived.Test.YtdhiibkcoolbeaaDoorPx16
import Derived.Test.YtdhiibkcoolbeaaDoorPxXXCk
namespace Go.Proofs.YtdhiibkcoolbeaaDoor.P
open Go.RowKit Go.Proofs.YtdhiibkcoolbeaaDoorW.PrintWords Go.Proofs.YtdhiibkcoolbeaaDoorW.PrintLast Go.Proofs.YtdhiibkcoolbeaaDoorW.PrintMore
attribute [local go_sem] max2_int min2_int max_two min_two max_three min_three max_four min_four   -- for this text's walks alone
set_option linter.unusedVariables false
set_option linter.unusedSimpArgs false

/-! ### stockadelaw04_ShapeChecks: function 3 -/
def stockadelaw04_ShapeChecks.f (k : Nat) (l0_0 : List (S52)) (l0_1 : List (S40)) : Option (Bool) := (stockadelaw04_twin.f l0_0 l0_1).bind fun bt396 => ((shape_Check.f bt396.1 bt396.2).bind fun bt403 => ((stockaderef04_Check.f k l0_0 l0_1).bind fun bt405 => ((stockadelaw04_awake.f).bind fun t407 => (if t407 = true then (if bt403.1 = bt405.1 then (if bt403.2 = bt405.2 then ((stockadelaw04_same.f k bt396.1 bt396.2 l0_0 l0_1).bind fun t408 => (some t408)) else (some false)) else (some false)) else (some false)))))
theorem stockadelaw04_ShapeChecks.mono : ∀ a0 a1 k, LeO (stockadelaw04_ShapeChecks.f k a0 a1) (stockadelaw04_ShapeChecks.f (k + 1) a0 a1) := by
 intro a0 a1 k
 unfold stockadelaw04_ShapeChecks.f
 repeat' first
   | (with_reducible exact stockadelaw04_same.mono _ _ _ _ _)
   | (with_reducible exact stockaderef04_Check.mono _ _ _)
   | (with_reducible exact LeO.refl _)
   | (with_reducible exact LeO.none _)
   | (with_reducible refine LeO.ite ?_ ?_)
   | (with_reducible refine LeO.bind ?_ (fun _ => ?_))
   | exact stockadelaw04_same.mono _ _ _ _ _
   | exact stockaderef04_Check.mono _ _ _
   | exact LeO.none _
   | refine LeO.ite ?_ ?_
   | refine LeO.bind ?_ (fun _ => ?_)
set_option maxHeartbeats 8000000 in
set_option maxRecDepth 100000 in
theorem stockadelaw04_ShapeChecks.calls (k : Nat) (A0_0 : Option Addr) (c0_0 : Nat) (l0_0 : List (S52)) (A0_1 : Option Addr) (c0_1 : Nat) (l0_1 : List (S40)) (r : Bool) (w : World) (hr0_0 : Kd.C k52 w A0_0 l0_0.length l0_0) (hc0_0 : l0_0.length ≤ c0_0) (hr0_1 : Kd.C k40 w A0_1 l0_1.length l0_1) (hc0_1 : l0_1.length ≤ c0_1) (hrG0 : Kd.C (Kd.int .i64) w (some ⟨0, 0, none⟩) gl0.length gl0) (hr_ : r = true) (h : stockadelaw04_ShapeChecks.f k l0_0 l0_1 = some r) :
  Calls Tryd.prog 3 #[.agg #[.slice A0_0 l0_0.length c0_0, .slice A0_1 l0_1.length c0_1]] w fun e w' => e = .returned (.bool r) ∧ Below w.heap.size w w' := by
 have hu25 := Tryd.underlying25
 have HR0_0 := Aside0.mk hr0_0
 have HC0_0 := Aside0.mk hc0_0
 clear hr0_0 hc0_0
 have HR0_1 := Aside0.mk hr0_1
 have HC0_1 := Aside0.mk hc0_1
 clear hr0_1 hc0_1
 have HRG0 := Aside0.mk hrG0
 clear hrG0
 have HRT := Aside0.mk hr_
 clear hr_
 have HB := Aside0.mk (Below.refl w.heap.size w)
 have H : ((stockadelaw04_twin.f l0_0 l0_1).bind fun bt396 => ((shape_Check.f bt396.1 bt396.2).bind fun bt403 => ((stockaderef04_Check.f k l0_0 l0_1).bind fun bt405 => ((stockadelaw04_awake.f).bind fun t407 => (if t407 = true then (if bt403.1 = bt405.1 then (if bt403.2 = bt405.2 then ((stockadelaw04_same.f k bt396.1 bt396.2 l0_0 l0_1).bind fun t408 => (some t408)) else (some false)) else (some false)) else (some false)))))) = some r := h
 clear h
 replace H := Option.bind_eq_some_iff.mp H; obtain ⟨⟨t396, t399⟩, A20, H⟩ := H; try dsimp only at H
 have A2 := Aside0.mk A20
 clear A20
 replace H := Option.bind_eq_some_iff.mp H; obtain ⟨⟨t403, t404⟩, A30, H⟩ := H; try dsimp only at H
 have A3 := Aside0.mk A30
 clear A30
 replace H := Option.bind_eq_some_iff.mp H; obtain ⟨⟨t405, t406⟩, A40, H⟩ := H; try dsimp only at H
 have A4 := Aside0.mk A40
 clear A40
 replace H := Option.bind_eq_some_iff.mp H; obtain ⟨t407, A50, H⟩ := H; try dsimp only at H
 have A5 := Aside0.mk A50
 clear A50
 by_cases c6 : t407 = true
 ·subst c6
  replace H := sh_t H
  by_cases c7 : t403 = t405
  ·rw [if_pos c7] at H
   have c7b0 : (t403 == t405) = true := beq_iff_eq.mpr c7
   have c7b1 : (t403 != t405) = false := bne_eq_false_iff_eq.mpr c7
   clear c7
   by_cases c8 : t404 = t406
   ·rw [if_pos c8] at H
    have c8b0 : (t404 == t406) = true := beq_iff_eq.mpr c8
    have c8b1 : (t404 != t406) = false := bne_eq_false_iff_eq.mpr c8
    clear c8
    replace H := Option.bind_eq_some_iff.mp H; obtain ⟨t408, A90, H⟩ := H; try dsimp only at H
    have A9 := Aside0.mk A90
    clear A90
    obtain rfl := Option.some.inj H
    go_enter Tryd.func3, Tryd.ntmps3
    go_wp2_with (first | ((with_reducible refine gate_dst (N := 1) rfl ?_); refine sh_box 1 #[.slice A0_0 l0_0.length c0_0, .slice A0_1 l0_1.length c0_1] 25 ?_; intro gb395 hg w10 hbox hb; have GE395 := sh_z (w := w) hg; replace HB := sh_b (w := w) hb; have BK395 := Aside0.mk (hbox); clear hb hbox hg; have hcz11 := blk_all2 BK395.out) | ((with_reducible refine gate_callee (f := 10) rfl ?_); refine sh_call (some 9) Tryd.func10 #[.agg #[.slice A0_0 l0_0.length c0_0, .slice A0_1 l0_1.length c0_1]] ?_; (with_reducible refine (stockadelaw04_twin.calls _ _ l0_0 _ _ l0_1 t396 t399 _ ?side1 ?side2 ?side3 ?side4 A2.out).mono ?_); (case side1 => repeat (first | exact (Kd.C_below HR0_0.out HB.out) | (with_reducible refine Kd.C_alloc ?_ _) | (with_reducible refine Kd.C_drewN ?_ _) | (with_reducible refine Kd.C_drew ?_))); (case side2 => exact HC0_0.out); (case side3 => repeat (first | exact (Kd.C_below HR0_1.out HB.out) | (with_reducible refine Kd.C_alloc ?_ _) | (with_reducible refine Kd.C_drewN ?_ _) | (with_reducible refine Kd.C_drew ?_))); (case side4 => exact HC0_1.out); rintro e w12 ⟨v397, v400, rfl, ho0, ho1, hb⟩; refine ⟨_, rfl, ?_⟩; have HO398 := Aside0.mk (Kd.R_lower ho0 (below_size b_now)); have HO401 := Aside0.mk (Kd.R_lower ho1 (below_size b_now)); replace BK395 := sh_k BK395 hb; replace HB := sh_b (w := w) hb; (try clear hb); (try clear hb2); (try clear hk); (try clear hi); (try clear ho0); (try clear ho1)) | ((with_reducible refine gate_dst (N := 3) rfl ?_); refine sh_box 3 #[.slice none 0 0, .slice none 0 0] 25 ?_; intro gb402 hg w13 hbox hb; have GE402 := sh_z (w := w) hg; have NB395_402 := sh_n BK395 hg; have NB402_395 := sh_s NB395_402; replace HO398 := Aside0.mk (Kd.R_below (by (with_reducible repeat (first | apply Kd.R_alloc | apply Kd.R_drewN | apply Kd.R_drew)); exact HO398.out) hb); replace HO401 := Aside0.mk (Kd.R_below (by (with_reducible repeat (first | apply Kd.R_alloc | apply Kd.R_drewN | apply Kd.R_drew)); exact HO401.out) hb); replace BK395 := sh_k BK395 hb; replace HB := sh_b (w := w) hb; have BK402 := Aside0.mk (hbox); clear hb hbox hg; obtain ⟨Ao14, co14, eo14⟩ := Kd.R_slice HO398.out; subst eo14; have hnb15 := NB402_395.out; have hnc15 := NB395_402.out; have hcz16 := blk_all2 BK402.out; obtain ⟨Ao17, co17, eo17⟩ := Kd.R_slice HO401.out; subst eo17) | ((with_reducible refine gate_callee (f := 11) rfl ?_); refine sh_call (some 12) Tryd.func11 #[.agg #[.slice Ao14 t396.length co14, .slice Ao17 t399.length co17]] ?_; (with_reducible refine (shape_Check.calls _ _ t396 _ _ t399 t403 t404 _ ?side1 ?side2 ?side3 ?side4 ?side5 A3.out).mono ?_); (case side1 => refine (Kd.R_reads' (e := 52) (base := w.heap.size) (ok := fun k_ => True) (n := t396.length) (c := co14) ?_).2.2; exact (by (with_reducible repeat (first | apply Kd.R_alloc | apply Kd.R_drewN | apply Kd.R_drew)); exact (Kd.R_mono (Kd.R_far (p := ⟨gb402, 1, none⟩) (Kd.R_far (p := ⟨gb402, 0, none⟩) (Kd.R_types HO398.out BK402.out (by decide)) (fun _ hk => hk.2) (.slice Ao14 t396.length co14)) (fun _ hk => hk.2) (.slice Ao17 t399.length co17)) (fun _ h_ => h_.1)))); (case side2 => exact (Kd.R_reads' HO398.out).2.1); (case side3 => refine (Kd.R_reads' (e := 40) (base := w.heap.size) (ok := fun k_ => True) (n := t399.length) (c := co17) ?_).2.2; exact (by (with_reducible repeat (first | apply Kd.R_alloc | apply Kd.R_drewN | apply Kd.R_drew)); exact (Kd.R_mono (Kd.R_far (p := ⟨gb402, 1, none⟩) (Kd.R_far (p := ⟨gb402, 0, none⟩) (Kd.R_types HO401.out BK402.out (by decide)) (fun _ hk => hk.2) (.slice Ao14 t396.length co14)) (fun _ hk => hk.2) (.slice Ao17 t399.length co17)) (fun _ h_ => h_.1)))); (case side4 => exact (Kd.R_reads' HO401.out).2.1); (case side5 => exact Kd.C_below HRG0.out b_now); rintro e w18 ⟨rfl, hb⟩; refine ⟨_, rfl, ?_⟩; replace HO398 := Aside0.mk (Kd.R_below (by (with_reducible repeat (first | apply Kd.R_alloc | apply Kd.R_drewN | apply Kd.R_drew)); exact (Kd.R_mono (Kd.R_far (p := ⟨gb402, 1, none⟩) (Kd.R_far (p := ⟨gb402, 0, none⟩) (Kd.R_types HO398.out BK402.out (by decide)) (fun _ hk => hk.2) (.slice Ao14 t396.length co14)) (fun _ hk => hk.2) (.slice Ao17 t399.length co17)) (fun _ h_ => h_.1))) hb); replace HO401 := Aside0.mk (Kd.R_below (by (with_reducible repeat (first | apply Kd.R_alloc | apply Kd.R_drewN | apply Kd.R_drew)); exact (Kd.R_mono (Kd.R_far (p := ⟨gb402, 1, none⟩) (Kd.R_far (p := ⟨gb402, 0, none⟩) (Kd.R_types HO401.out BK402.out (by decide)) (fun _ hk => hk.2) (.slice Ao14 t396.length co14)) (fun _ hk => hk.2) (.slice Ao17 t399.length co17)) (fun _ h_ => h_.1))) hb); replace BK395 := sh_kp (g := gb395) (t := 25) #[.slice A0_0 l0_0.length c0_0, .slice A0_1 l0_1.length c0_1] hb; replace BK402 := sh_kp (g := gb402) (t := 25) #[.slice Ao14 t396.length co14, .slice Ao17 t399.length co17] hb; replace HB := sh_b (w := w) hb; (try clear hb); (try clear hb2); (try clear hk); (try clear hi); have hcz19 := blk_all2 BK395.out) | ((with_reducible refine gate_callee (f := 12) rfl ?_); refine sh_call (some 17) Tryd.func12 #[.agg #[.slice A0_0 l0_0.length c0_0, .slice A0_1 l0_1.length c0_1]] ?_; (with_reducible refine (stockaderef04_Check.calls k _ _ l0_0 _ _ l0_1 t405 t406 _ ?side1 ?side2 ?side3 ?side4 A4.out).mono ?_); (case side1 => repeat (first | exact (Kd.C_below HR0_0.out HB.out) | (with_reducible refine Kd.C_alloc ?_ _) | (with_reducible refine Kd.C_drewN ?_ _) | (with_reducible refine Kd.C_drew ?_))); (case side2 => exact HC0_0.out); (case side3 => repeat (first | exact (Kd.C_below HR0_1.out HB.out) | (with_reducible refine Kd.C_alloc ?_ _) | (with_reducible refine Kd.C_drewN ?_ _) | (with_reducible refine Kd.C_drew ?_))); (case side4 => exact HC0_1.out); rintro e w20 ⟨rfl, hb⟩; refine ⟨_, rfl, ?_⟩; replace HO398 := Aside0.mk (Kd.R_below (by (with_reducible repeat (first | apply Kd.R_alloc | apply Kd.R_drewN | apply Kd.R_drew)); exact HO398.out) hb); replace HO401 := Aside0.mk (Kd.R_below (by (with_reducible repeat (first | apply Kd.R_alloc | apply Kd.R_drewN | apply Kd.R_drew)); exact HO401.out) hb); replace BK395 := sh_k BK395 hb; replace BK402 := sh_k BK402 hb; replace HB := sh_b (w := w) hb; (try clear hb); (try clear hb2); (try clear hk); (try clear hi)) | ((with_reducible refine gate_callee (f := 13) rfl ?_); refine sh_call (some 20) Tryd.func13 #[] ?_; (with_reducible refine (stockadelaw04_awake.calls  true _ ?side1 (by first | rfl | exact HRT.out) A5.out).mono ?_); (case side1 => repeat (first | exact (Kd.C_below HRG0.out HB.out) | (with_reducible refine Kd.C_alloc ?_ _) | (with_reducible refine Kd.C_drewN ?_ _) | (with_reducible refine Kd.C_drew ?_))); rintro e w21 ⟨rfl, hb⟩; refine ⟨_, rfl, ?_⟩; replace HO398 := Aside0.mk (Kd.R_below (by (with_reducible repeat (first | apply Kd.R_alloc | apply Kd.R_drewN | apply Kd.R_drew)); exact HO398.out) hb); replace HO401 := Aside0.mk (Kd.R_below (by (with_reducible repeat (first | apply Kd.R_alloc | apply Kd.R_drewN | apply Kd.R_drew)); exact HO401.out) hb); replace BK395 := sh_k BK395 hb; replace BK402 := sh_k BK402 hb; replace HB := sh_b (w := w) hb; (try clear hb); (try clear hb2); (try clear hk); (try clear hi); have hcz22 := blk_all2 BK402.out; have hcz23 := blk_all2 BK395.out) | (go_at_call 14; (with_reducible refine (stockadelaw04_same.calls k _ _ t396 _ _ t399 _ _ l0_0 _ _ l0_1 t408 _ ?side1 ?side2 ?side3 ?side4 ?side5 ?side6 ?side7 ?side8 A9.out).mono ?_); (case side1 => repeat (first | exact (Kd.R_reads' HO398.out).2.2 | (with_reducible refine Kd.C_alloc ?_ _) | (with_reducible refine Kd.C_drewN ?_ _) | (with_reducible refine Kd.C_drew ?_))); (case side2 => exact (Kd.R_reads' HO398.out).2.1); (case side3 => repeat (first | exact (Kd.R_reads' HO401.out).2.2 | (with_reducible refine Kd.C_alloc ?_ _) | (with_reducible refine Kd.C_drewN ?_ _) | (with_reducible refine Kd.C_drew ?_))); (case side4 => exact (Kd.R_reads' HO401.out).2.1); (case side5 => repeat (first | exact (Kd.C_below HR0_0.out HB.out) | (with_reducible refine Kd.C_alloc ?_ _) | (with_reducible refine Kd.C_drewN ?_ _) | (with_reducible refine Kd.C_drew ?_))); (case side6 => exact HC0_0.out); (case side7 => repeat (first | exact (Kd.C_below HR0_1.out HB.out) | (with_reducible refine Kd.C_alloc ?_ _) | (with_reducible refine Kd.C_drewN ?_ _) | (with_reducible refine Kd.C_drew ?_))); (case side8 => exact HC0_1.out); rintro e w24 ⟨rfl, hb⟩; replace HO398 := Aside0.mk (Kd.R_below (by (with_reducible repeat (first | apply Kd.R_alloc | apply Kd.R_drewN | apply Kd.R_drew)); exact HO398.out) hb); replace HO401 := Aside0.mk (Kd.R_below (by (with_reducible repeat (first | apply Kd.R_alloc | apply Kd.R_drewN | apply Kd.R_drew)); exact HO401.out) hb); replace BK395 := sh_k BK395 hb; replace BK402 := sh_k BK402 hb; replace HB := sh_b (w := w) hb; (try clear hb); (try clear hb2); (try clear hk); (try clear hi)))
    go_ret
    exact ⟨ret_now, b_now⟩
   ·rw [if_neg c8] at H
    have c8b0 : (t404 == t406) = false := beq_eq_false_iff_ne.mpr c8
    have c8b1 : (t404 != t406) = true := bne_iff_ne.mpr c8
    obtain rfl := Option.some.inj H
    exact absurd HRT.out (by simp)
  ·rw [if_neg c7] at H
   have c7b0 : (t403 == t405) = false := beq_eq_false_iff_ne.mpr c7
   have c7b1 : (t403 != t405) = true := bne_iff_ne.mpr c7
   obtain rfl := Option.some.inj H
   exact absurd HRT.out (by simp)
 ·replace c6 := Bool.eq_false_iff.mpr c6
  subst c6
  replace H := sh_f H
  obtain rfl := Option.some.inj H
  exact absurd HRT.out (by simp)

end Go.Proofs.YtdhiibkcoolbeaaDoor.P
