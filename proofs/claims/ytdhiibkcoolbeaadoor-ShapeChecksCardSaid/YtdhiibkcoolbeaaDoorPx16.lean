/- Made by this session's driver over the kit's printer: for each Go function a Lean function with the same answers, and a proof that the Go call comes to these answers; no conditions but the ones each theorem names. -/
import Derived.Test.YtdhiibkcoolbeaaDoorPx0
import Derived.Test.YtdhiibkcoolbeaaDoorPx1
import Derived.Test.YtdhiibkcoolbeaaDoorPx3
import Derived.Test.YtdhiibkcoolbeaaDoorPx9
import Derived.Test.YtdhiibkcoolbeaaDoorPxXXCk
import Derived.Test.YtdhiibkcoolbeaaDoorPxXXSt
namespace Go.Proofs.YtdhiibkcoolbeaaDoor.P
open Go.RowKit Go.Proofs.YtdhiibkcoolbeaaDoorW.PrintWords Go.Proofs.YtdhiibkcoolbeaaDoorW.PrintLast Go.Proofs.YtdhiibkcoolbeaaDoorW.PrintMore
attribute [local go_sem] max2_int min2_int max_two min_two max_three min_three max_four min_four   -- for this text's walks alone
set_option linter.unusedVariables false
set_option linter.unusedSimpArgs false

attribute [local go_sem high] eqA40 eqA52
/-! ### stockadelaw04_exit: function 24 -/
def stockadelaw04_exit.f  : Option (Int × Int × Int × Int × Int) := some (149, 0, 0, 0, 0)
set_option maxHeartbeats 8000000 in
set_option maxRecDepth 100000 in
theorem stockadelaw04_exit.calls  (r1 : Int) (r2 : Int) (r3 : Int) (r4 : Int) (r5 : Int) (w : World) (h : stockadelaw04_exit.f  = some (r1, r2, r3, r4, r5)) :
  Calls Tryd.prog 24 #[] w fun e w' => e = .returned (.agg #[.int .u8 r1, .int .u8 r2, .int .u8 r3, .int .i16 r4, .int .i32 r5]) ∧ Below w.heap.size w w' := by
 have hu40 := Tryd.underlying40
 have HB := Aside0.mk (Below.refl w.heap.size w)
 have H : (some (149, 0, 0, 0, 0)) = some (r1, r2, r3, r4, r5) := h
 clear h
 simp only [Option.some.injEq, Prod.mk.injEq] at H
 obtain ⟨rfl, rfl, rfl, rfl, rfl⟩ := H
 go_enter Tryd.func24, Tryd.ntmps24
 go_wp2_with (first | ((with_reducible refine gate_dst (N := 0) rfl ?_); refine sh_box 0 #[.int .u8 0, .int .u8 0, .int .u8 0, .int .i16 0, .int .i32 0] 40 ?_; intro gb354 hg w1 hbox hb; have GE354 := sh_z (w := w) hg; replace HB := sh_b (w := w) hb; have BK354 := Aside0.mk (hbox); clear hb hbox hg; have hcz2 := blk_all5 BK354.out))
 refine bodyPost_ret (results_cell_row rfl _ _ gb354 40 #[.int .u8 149, .int .u8 0, .int .u8 0, .int .i16 0, .int .i32 0] (0, 0) _ rfl bk_now Tryd.underlying40 rfl (by kernel_rfl)) rfl ?_
 exact ⟨ret_now, b_now⟩

/-! ### stockadelaw04_awake: function 13 -/
def stockadelaw04_awake.f  : Option (Bool) := (stockadelaw04_exit.f).bind fun bt355 => ((shape_Check.f ([] : List (S52)) (([(⟨24, 0, 0, 0, 0⟩ : S40), (⟨0, 0, 0, 0, 0⟩ : S40), (⟨bt355.1, bt355.2.1, bt355.2.2.1, bt355.2.2.2.1, bt355.2.2.2.2⟩ : S40)] : List (S40)))).bind fun bt363 => ((shape_Check.f ([] : List (S52)) ([] : List (S40))).bind fun bt365 => ((shape_Check.f ([] : List (S52)) (([(⟨7, 0, 0, 0, 0⟩ : S40), (⟨7, 0, 0, 0, 0⟩ : S40)] : List (S40)))).bind fun bt370 => ((stockadelaw04_exit.f).bind fun bt372 => ((shape_Starts.f (([(⟨24, 0, 0, 0, 0⟩ : S40), (⟨0, 0, 0, 0, 0⟩ : S40), (⟨bt372.1, bt372.2.1, bt372.2.2.1, bt372.2.2.2.1, bt372.2.2.2.2⟩ : S40)] : List (S40)))).bind fun t380 => (if bt363.1 = 0 then (if bt363.2 = 0 then (if bt365.2 = 4 then (if bt370.1 = 1 then (if bt370.2 = 25 then (if (t380.length : Int) = 3 then (if 0 < (t380.length : Int) then (if rdOf false t380 0 = true then (if 1 < (t380.length : Int) then (if rdOf false t380 1 = true then (some false) else (if 2 < (t380.length : Int) then (if rdOf false t380 2 = true then ((shape_Target.f 5 5 0 0 (-6) 0).bind fun t386 => (if t386 = 0 then ((shape_Helper.f 7).bind fun t387 => (if t387 = true then ((shape_Helper.f 4).bind fun t388 => (some (!t388))) else (some false))) else (some false))) else (some false)) else (none))) else (none)) else (some false)) else (none)) else (some false)) else (some false)) else (some false)) else (some false)) else (some false)) else (some false)))))))
set_option maxHeartbeats 8000000 in
set_option maxRecDepth 100000 in
theorem stockadelaw04_awake.calls  (r : Bool) (w : World) (hrG0 : Kd.C (Kd.int .i64) w (some ⟨0, 0, none⟩) gl0.length gl0) (hr_ : r = true) (h : stockadelaw04_awake.f  = some r) :
  Calls Tryd.prog 13 #[] w fun e w' => e = .returned (.bool r) ∧ Below w.heap.size w w' := by
 have hu40 := Tryd.underlying40
 have hu25 := Tryd.underlying25
 have HRG0 := Aside0.mk hrG0
 clear hrG0
 have HRT := Aside0.mk hr_
 clear hr_
 have HB := Aside0.mk (Below.refl w.heap.size w)
 have H : ((stockadelaw04_exit.f).bind fun bt355 => ((shape_Check.f ([] : List (S52)) (([(⟨24, 0, 0, 0, 0⟩ : S40), (⟨0, 0, 0, 0, 0⟩ : S40), (⟨bt355.1, bt355.2.1, bt355.2.2.1, bt355.2.2.2.1, bt355.2.2.2.2⟩ : S40)] : List (S40)))).bind fun bt363 => ((shape_Check.f ([] : List (S52)) ([] : List (S40))).bind fun bt365 => ((shape_Check.f ([] : List (S52)) (([(⟨7, 0, 0, 0, 0⟩ : S40), (⟨7, 0, 0, 0, 0⟩ : S40)] : List (S40)))).bind fun bt370 => ((stockadelaw04_exit.f).bind fun bt372 => ((shape_Starts.f (([(⟨24, 0, 0, 0, 0⟩ : S40), (⟨0, 0, 0, 0, 0⟩ : S40), (⟨bt372.1, bt372.2.1, bt372.2.2.1, bt372.2.2.2.1, bt372.2.2.2.2⟩ : S40)] : List (S40)))).bind fun t380 => (if bt363.1 = 0 then (if bt363.2 = 0 then (if bt365.2 = 4 then (if bt370.1 = 1 then (if bt370.2 = 25 then (if (t380.length : Int) = 3 then (if 0 < (t380.length : Int) then (if rdOf false t380 0 = true then (if 1 < (t380.length : Int) then (if rdOf false t380 1 = true then (some false) else (if 2 < (t380.length : Int) then (if rdOf false t380 2 = true then ((shape_Target.f 5 5 0 0 (-6) 0).bind fun t386 => (if t386 = 0 then ((shape_Helper.f 7).bind fun t387 => (if t387 = true then ((shape_Helper.f 4).bind fun t388 => (some (!t388))) else (some false))) else (some false))) else (some false)) else (none))) else (none)) else (some false)) else (none)) else (some false)) else (some false)) else (some false)) else (some false)) else (some false)) else (some false)))))))) = some r := h
 clear h
 replace H := Option.bind_eq_some_iff.mp H; obtain ⟨⟨t355, t356, t357, t358, t359⟩, A10, H⟩ := H; try dsimp only at H
 have A1 := Aside0.mk A10
 clear A10
 obtain ⟨y360, hy360⟩ : ∃ y_ : List (S40), y_ = (([(⟨24, 0, 0, 0, 0⟩ : S40), (⟨0, 0, 0, 0, 0⟩ : S40), (⟨t355, t356, t357, t358, t359⟩ : S40)] : List (S40))) := ⟨_, rfl⟩
 replace H : ((shape_Check.f ([] : List (S52)) y360).bind fun bt363 => ((shape_Check.f ([] : List (S52)) ([] : List (S40))).bind fun bt365 => ((shape_Check.f ([] : List (S52)) (([(⟨7, 0, 0, 0, 0⟩ : S40), (⟨7, 0, 0, 0, 0⟩ : S40)] : List (S40)))).bind fun bt370 => ((stockadelaw04_exit.f).bind fun bt372 => ((shape_Starts.f (([(⟨24, 0, 0, 0, 0⟩ : S40), (⟨0, 0, 0, 0, 0⟩ : S40), (⟨bt372.1, bt372.2.1, bt372.2.2.1, bt372.2.2.2.1, bt372.2.2.2.2⟩ : S40)] : List (S40)))).bind fun t380 => (if bt363.1 = 0 then (if bt363.2 = 0 then (if bt365.2 = 4 then (if bt370.1 = 1 then (if bt370.2 = 25 then (if (t380.length : Int) = 3 then (if 0 < (t380.length : Int) then (if rdOf false t380 0 = true then (if 1 < (t380.length : Int) then (if rdOf false t380 1 = true then (some false) else (if 2 < (t380.length : Int) then (if rdOf false t380 2 = true then ((shape_Target.f 5 5 0 0 (-6) 0).bind fun t386 => (if t386 = 0 then ((shape_Helper.f 7).bind fun t387 => (if t387 = true then ((shape_Helper.f 4).bind fun t388 => (some (!t388))) else (some false))) else (some false))) else (some false)) else (none))) else (none)) else (some false)) else (none)) else (some false)) else (some false)) else (some false)) else (some false)) else (some false)) else (some false))))))) = some r := by first | (rw [hy360]; with_reducible exact H) | (have H2_ := (Option.bind_some _ _).symm.trans H; rw [hy360]; with_reducible exact H2_) | (have H2_ := (Option.bind_some _ _).symm.trans H; with_reducible exact H2_) | with_reducible exact H | (rw [hy360]; exact H) | exact H
 have Ny360 := Aside0.mk hy360
 clear hy360
 replace H := Option.bind_eq_some_iff.mp H; obtain ⟨⟨t363, t364⟩, A20, H⟩ := H; try dsimp only at H
 have A2 := Aside0.mk A20
 clear A20
 replace H := Option.bind_eq_some_iff.mp H; obtain ⟨⟨t365, t366⟩, A30, H⟩ := H; try dsimp only at H
 have A3 := Aside0.mk A30
 clear A30
 obtain ⟨y367, hy367⟩ : ∃ y_ : List (S40), y_ = (([(⟨7, 0, 0, 0, 0⟩ : S40), (⟨7, 0, 0, 0, 0⟩ : S40)] : List (S40))) := ⟨_, rfl⟩
 replace H : ((shape_Check.f ([] : List (S52)) y367).bind fun bt370 => ((stockadelaw04_exit.f).bind fun bt372 => ((shape_Starts.f (([(⟨24, 0, 0, 0, 0⟩ : S40), (⟨0, 0, 0, 0, 0⟩ : S40), (⟨bt372.1, bt372.2.1, bt372.2.2.1, bt372.2.2.2.1, bt372.2.2.2.2⟩ : S40)] : List (S40)))).bind fun t380 => (if t363 = 0 then (if t364 = 0 then (if t366 = 4 then (if bt370.1 = 1 then (if bt370.2 = 25 then (if (t380.length : Int) = 3 then (if 0 < (t380.length : Int) then (if rdOf false t380 0 = true then (if 1 < (t380.length : Int) then (if rdOf false t380 1 = true then (some false) else (if 2 < (t380.length : Int) then (if rdOf false t380 2 = true then ((shape_Target.f 5 5 0 0 (-6) 0).bind fun t386 => (if t386 = 0 then ((shape_Helper.f 7).bind fun t387 => (if t387 = true then ((shape_Helper.f 4).bind fun t388 => (some (!t388))) else (some false))) else (some false))) else (some false)) else (none))) else (none)) else (some false)) else (none)) else (some false)) else (some false)) else (some false)) else (some false)) else (some false)) else (some false))))) = some r := by first | (rw [hy367]; with_reducible exact H) | (have H2_ := (Option.bind_some _ _).symm.trans H; rw [hy367]; with_reducible exact H2_) | (have H2_ := (Option.bind_some _ _).symm.trans H; with_reducible exact H2_) | with_reducible exact H | (rw [hy367]; exact H) | exact H
 have Ny367 := Aside0.mk hy367
 clear hy367
 replace H := Option.bind_eq_some_iff.mp H; obtain ⟨⟨t370, t371⟩, A40, H⟩ := H; try dsimp only at H
 have A4 := Aside0.mk A40
 clear A40
 replace H := Option.bind_eq_some_iff.mp H; obtain ⟨⟨t372, t373, t374, t375, t376⟩, A50, H⟩ := H; try dsimp only at H
 have A5 := Aside0.mk A50
 clear A50
 obtain ⟨y377, hy377⟩ : ∃ y_ : List (S40), y_ = (([(⟨24, 0, 0, 0, 0⟩ : S40), (⟨0, 0, 0, 0, 0⟩ : S40), (⟨t372, t373, t374, t375, t376⟩ : S40)] : List (S40))) := ⟨_, rfl⟩
 replace H : ((shape_Starts.f y377).bind fun t380 => (if t363 = 0 then (if t364 = 0 then (if t366 = 4 then (if t370 = 1 then (if t371 = 25 then (if (t380.length : Int) = 3 then (if 0 < (t380.length : Int) then (if rdOf false t380 0 = true then (if 1 < (t380.length : Int) then (if rdOf false t380 1 = true then (some false) else (if 2 < (t380.length : Int) then (if rdOf false t380 2 = true then ((shape_Target.f 5 5 0 0 (-6) 0).bind fun t386 => (if t386 = 0 then ((shape_Helper.f 7).bind fun t387 => (if t387 = true then ((shape_Helper.f 4).bind fun t388 => (some (!t388))) else (some false))) else (some false))) else (some false)) else (none))) else (none)) else (some false)) else (none)) else (some false)) else (some false)) else (some false)) else (some false)) else (some false)) else (some false))) = some r := by first | (rw [hy377]; with_reducible exact H) | (have H2_ := (Option.bind_some _ _).symm.trans H; rw [hy377]; with_reducible exact H2_) | (have H2_ := (Option.bind_some _ _).symm.trans H; with_reducible exact H2_) | with_reducible exact H | (rw [hy377]; exact H) | exact H
 have Ny377 := Aside0.mk hy377
 clear hy377
 replace H := Option.bind_eq_some_iff.mp H; obtain ⟨t380, A60, H⟩ := H; try dsimp only at H
 have A6 := Aside0.mk A60
 clear A60
 by_cases c7 : t363 = 0
 ·rw [if_pos c7] at H
  have c7b0 : (t363 == 0) = true := beq_iff_eq.mpr c7
  have c7b1 : (t363 != 0) = false := bne_eq_false_iff_eq.mpr c7
  clear c7
  by_cases c8 : t364 = 0
  ·rw [if_pos c8] at H
   have c8b0 : (t364 == 0) = true := beq_iff_eq.mpr c8
   have c8b1 : (t364 != 0) = false := bne_eq_false_iff_eq.mpr c8
   clear c8
   by_cases c9 : t366 = 4
   ·rw [if_pos c9] at H
    have c9b0 : (t366 == 4) = true := beq_iff_eq.mpr c9
    have c9b1 : (t366 != 4) = false := bne_eq_false_iff_eq.mpr c9
    clear c9
    by_cases c10 : t370 = 1
    ·rw [if_pos c10] at H
     have c10b0 : (t370 == 1) = true := beq_iff_eq.mpr c10
     have c10b1 : (t370 != 1) = false := bne_eq_false_iff_eq.mpr c10
     clear c10
     by_cases c11 : t371 = 25
     ·rw [if_pos c11] at H
      have c11b0 : (t371 == 25) = true := beq_iff_eq.mpr c11
      have c11b1 : (t371 != 25) = false := bne_eq_false_iff_eq.mpr c11
      clear c11
      by_cases c12 : (t380.length : Int) = 3
      ·rw [if_pos c12] at H
       have c12b0 : ((t380.length : Int) == 3) = true := beq_iff_eq.mpr c12
       have c12b1 : ((t380.length : Int) != 3) = false := bne_eq_false_iff_eq.mpr c12
       clear c12
       by_cases c13 : 0 < (t380.length : Int)
       ·rw [if_pos c13] at H
        have c13b0 : decide (0 < (t380.length : Int)) = true := decide_eq_true c13
        have c13b1 : decide (0 < t380.length) = true := decide_eq_true (by omega)
        clear c13
        obtain ⟨bq14, hbq14⟩ : ∃ b_ : Bool, b_ = (rdOf false t380 0) := ⟨_, rfl⟩
        replace H : (if bq14 = true then (if 1 < (t380.length : Int) then (if rdOf false t380 1 = true then (some false) else (if 2 < (t380.length : Int) then (if rdOf false t380 2 = true then ((shape_Target.f 5 5 0 0 (-6) 0).bind fun t386 => (if t386 = 0 then ((shape_Helper.f 7).bind fun t387 => (if t387 = true then ((shape_Helper.f 4).bind fun t388 => (some (!t388))) else (some false))) else (some false))) else (some false)) else (none))) else (none)) else (some false)) = some r := by rw [← hbq14] at H; exact H
        have Nbq14 := Aside0.mk hbq14
        clear hbq14
        by_cases c15 : bq14 = true
        ·subst c15
         replace H := sh_t H
         by_cases c16 : 1 < (t380.length : Int)
         ·rw [if_pos c16] at H
          have c16b0 : decide (1 < (t380.length : Int)) = true := decide_eq_true c16
          have c16b1 : decide (1 < t380.length) = true := decide_eq_true (by omega)
          clear c16
          obtain ⟨bq17, hbq17⟩ : ∃ b_ : Bool, b_ = (rdOf false t380 1) := ⟨_, rfl⟩
          replace H : (if bq17 = true then (some false) else (if 2 < (t380.length : Int) then (if rdOf false t380 2 = true then ((shape_Target.f 5 5 0 0 (-6) 0).bind fun t386 => (if t386 = 0 then ((shape_Helper.f 7).bind fun t387 => (if t387 = true then ((shape_Helper.f 4).bind fun t388 => (some (!t388))) else (some false))) else (some false))) else (some false)) else (none))) = some r := by rw [← hbq17] at H; exact H
          have Nbq17 := Aside0.mk hbq17
          clear hbq17
          by_cases c18 : bq17 = true
          ·subst c18
           replace H := sh_t H
           obtain rfl := Option.some.inj H
           exact absurd HRT.out (by simp)
          ·replace c18 := Bool.eq_false_iff.mpr c18
           subst c18
           replace H := sh_f H
           by_cases c19 : 2 < (t380.length : Int)
           ·rw [if_pos c19] at H
            have c19b0 : decide (2 < (t380.length : Int)) = true := decide_eq_true c19
            have c19b1 : decide (2 < t380.length) = true := decide_eq_true (by omega)
            clear c19
            obtain ⟨bq20, hbq20⟩ : ∃ b_ : Bool, b_ = (rdOf false t380 2) := ⟨_, rfl⟩
            replace H : (if bq20 = true then ((shape_Target.f 5 5 0 0 (-6) 0).bind fun t386 => (if t386 = 0 then ((shape_Helper.f 7).bind fun t387 => (if t387 = true then ((shape_Helper.f 4).bind fun t388 => (some (!t388))) else (some false))) else (some false))) else (some false)) = some r := by rw [← hbq20] at H; exact H
            have Nbq20 := Aside0.mk hbq20
            clear hbq20
            by_cases c21 : bq20 = true
            ·subst c21
             replace H := sh_t H
             replace H := Option.bind_eq_some_iff.mp H; obtain ⟨t386, A220, H⟩ := H; try dsimp only at H
             have A22 := Aside0.mk A220
             clear A220
             by_cases c23 : t386 = 0
             ·rw [if_pos c23] at H
              have c23b0 : (t386 == 0) = true := beq_iff_eq.mpr c23
              have c23b1 : (t386 != 0) = false := bne_eq_false_iff_eq.mpr c23
              clear c23
              replace H := Option.bind_eq_some_iff.mp H; obtain ⟨t387, A240, H⟩ := H; try dsimp only at H
              have A24 := Aside0.mk A240
              clear A240
              by_cases c25 : t387 = true
              ·subst c25
               replace H := sh_t H
               replace H := Option.bind_eq_some_iff.mp H; obtain ⟨t388, A260, H⟩ := H; try dsimp only at H
               have A26 := Aside0.mk A260
               clear A260
               obtain rfl := Option.some.inj H
               go_enter Tryd.func13, Tryd.ntmps13
               go_wp2_with (first | ((with_reducible refine gate_callee (f := 24) rfl ?_); refine sh_call (some 11) Tryd.func24 #[] ?_; (with_reducible refine (stockadelaw04_exit.calls  t355 t356 t357 t358 t359 _ A1.out).mono ?_); rintro e w27 ⟨rfl, hb⟩; refine ⟨_, rfl, ?_⟩; replace HB := sh_b (w := w) hb; (try clear hb); (try clear hb2); (try clear hk); (try clear hi)) | ((with_reducible refine gate_dst (N := 12) rfl ?_); (try (refine gate_guard (by rfl) ?_; dsimp only)); refine Kd.R_lit k40 _ 40 ?hg (N := 12) ?hd (xs := ([(⟨24, 0, 0, 0, 0⟩ : S40), (⟨0, 0, 0, 0, 0⟩ : S40), (⟨t355, t356, t357, t358, t359⟩ : S40)] : List (S40))) (inner := [.int .u8 24, .int .u8 0, .int .u8 0, .int .i16 0, .int .i32 0, .int .u8 0, .int .u8 0, .int .u8 0, .int .i16 0, .int .i32 0, .int .u8 t355, .int .u8 t356, .int .u8 t357, .int .i16 t358, .int .i32 t359]) (ok := fun _ => True) (okp := fun _ => True) ?hr ?hp (fun _ hk => hk) trivial (Below.refl _ _) (Nat.le_refl _) (by simp) ?_; (case hd => rfl); (case hg => rfl); (case hr => first | (go_simp; done) | (go_simp; rfl)); (case hp => exact (Reps.c5 (show Kd.M k40 _ _ _ (⟨24, 0, 0, 0, 0⟩ : S40) [.int .u8 24, .int .u8 0, .int .u8 0, .int .i16 0, .int .i32 0] from (k40_mkM _ _ _ (⟨24, 0, 0, 0, 0⟩ : S40) )) (Reps.c5 (show Kd.M k40 _ _ _ (⟨0, 0, 0, 0, 0⟩ : S40) [.int .u8 0, .int .u8 0, .int .u8 0, .int .i16 0, .int .i32 0] from (k40_mkM _ _ _ (⟨0, 0, 0, 0, 0⟩ : S40) )) (Reps.c5 (show Kd.M k40 _ _ _ (⟨t355, t356, t357, t358, t359⟩ : S40) [.int .u8 t355, .int .u8 t356, .int .u8 t357, .int .i16 t358, .int .i32 t359] from (k40_mkM _ _ _ (⟨t355, t356, t357, t358, t359⟩ : S40) )) (Reps.none _ _))))); intro v361 w28 ho29 hb hg_ hnew_; clear hg_ hnew_; (first | rw [← Ny360.out] at ho29 | (simp only [Int.reduceToNat] at ho29; rw [← Ny360.out] at ho29)); have HO362 := Aside0.mk (Kd.R_lower ho29 (below_size b_now)); replace HB := sh_b (w := w) hb; clear hb ho29; obtain ⟨Ao30, co30, eo30⟩ := Kd.R_slice HO362.out; subst eo30) | ((with_reducible refine gate_callee (f := 11) rfl ?_); refine sh_call (some 14) Tryd.func11 #[.agg #[.slice none 0 0, .slice Ao30 y360.length co30]] ?_; (refine (shape_Check.calls _ _ ([] : List (S52)) _ _ y360 t363 t364 _ ?side1 ?side2 ?side3 ?side4 ?side5 A2.out).mono ?_); (case side1 => exact Kd.C_nil _ _); (case side2 => exact Nat.le_refl _); (case side3 => repeat (first | exact (Kd.R_reads' HO362.out).2.2 | (with_reducible refine Kd.C_alloc ?_ _) | (with_reducible refine Kd.C_drewN ?_ _) | (with_reducible refine Kd.C_drew ?_))); (case side4 => exact (Kd.R_reads' HO362.out).2.1); (case side5 => repeat (first | exact (Kd.C_below HRG0.out HB.out) | (with_reducible refine Kd.C_alloc ?_ _) | (with_reducible refine Kd.C_drewN ?_ _) | (with_reducible refine Kd.C_drew ?_))); rintro e w31 ⟨rfl, hb⟩; refine ⟨_, rfl, ?_⟩; replace HO362 := Aside0.mk (Kd.R_below (by (with_reducible repeat (first | apply Kd.R_alloc | apply Kd.R_drewN | apply Kd.R_drew)); exact HO362.out) hb); replace HB := sh_b (w := w) hb; (try clear hb); (try clear hb2); (try clear hk); (try clear hi)) | ((with_reducible refine gate_callee (f := 11) rfl ?_); refine sh_call (some 19) Tryd.func11 #[.agg #[.slice none 0 0, .slice none 0 0]] ?_; (refine (shape_Check.calls _ _ ([] : List (S52)) _ _ ([] : List (S40)) t365 t366 _ ?side1 ?side2 ?side3 ?side4 ?side5 A3.out).mono ?_); (case side1 => exact Kd.C_nil _ _); (case side2 => exact Nat.le_refl _); (case side3 => exact Kd.C_nil _ _); (case side4 => exact Nat.le_refl _); (case side5 => repeat (first | exact (Kd.C_below HRG0.out HB.out) | (with_reducible refine Kd.C_alloc ?_ _) | (with_reducible refine Kd.C_drewN ?_ _) | (with_reducible refine Kd.C_drew ?_))); rintro e w32 ⟨rfl, hb⟩; refine ⟨_, rfl, ?_⟩; replace HO362 := Aside0.mk (Kd.R_below (by (with_reducible repeat (first | apply Kd.R_alloc | apply Kd.R_drewN | apply Kd.R_drew)); exact HO362.out) hb); replace HB := sh_b (w := w) hb; (try clear hb); (try clear hb2); (try clear hk); (try clear hi)) | ((with_reducible refine gate_dst (N := 25) rfl ?_); (try (refine gate_guard (by rfl) ?_; dsimp only)); refine Kd.R_lit k40 _ 40 ?hg (N := 25) ?hd (xs := ([(⟨7, 0, 0, 0, 0⟩ : S40), (⟨7, 0, 0, 0, 0⟩ : S40)] : List (S40))) (inner := [.int .u8 7, .int .u8 0, .int .u8 0, .int .i16 0, .int .i32 0, .int .u8 7, .int .u8 0, .int .u8 0, .int .i16 0, .int .i32 0]) (ok := fun _ => True) (okp := fun _ => True) ?hr ?hp (fun _ hk => hk) trivial (Below.refl _ _) (Nat.le_refl _) (by simp) ?_; (case hd => rfl); (case hg => rfl); (case hr => first | (go_simp; done) | (go_simp; rfl)); (case hp => exact (Reps.c5 (show Kd.M k40 _ _ _ (⟨7, 0, 0, 0, 0⟩ : S40) [.int .u8 7, .int .u8 0, .int .u8 0, .int .i16 0, .int .i32 0] from (k40_mkM _ _ _ (⟨7, 0, 0, 0, 0⟩ : S40) )) (Reps.c5 (show Kd.M k40 _ _ _ (⟨7, 0, 0, 0, 0⟩ : S40) [.int .u8 7, .int .u8 0, .int .u8 0, .int .i16 0, .int .i32 0] from (k40_mkM _ _ _ (⟨7, 0, 0, 0, 0⟩ : S40) )) (Reps.none _ _)))); intro v368 w33 ho34 hb hg_ hnew_; clear hg_ hnew_; (first | rw [← Ny367.out] at ho34 | (simp only [Int.reduceToNat] at ho34; rw [← Ny367.out] at ho34)); have HO369 := Aside0.mk (Kd.R_lower (Kd.R_new' ho34 (Kd.R_lt (by (with_reducible repeat (first | apply Kd.R_alloc | apply Kd.R_drewN | apply Kd.R_drew)); exact HO362.out))) (below_size b_now)); replace HO362 := Aside0.mk (Kd.R_elder' (by (with_reducible repeat (first | apply Kd.R_alloc | apply Kd.R_drewN | apply Kd.R_drew)); exact HO362.out) (Kd.R_base ho34) hb); replace HB := sh_b (w := w) hb; clear hb ho34; obtain ⟨Ao35, co35, eo35⟩ := Kd.R_slice HO369.out; subst eo35) | ((with_reducible refine gate_callee (f := 11) rfl ?_); refine sh_call (some 27) Tryd.func11 #[.agg #[.slice none 0 0, .slice Ao35 y367.length co35]] ?_; (refine (shape_Check.calls _ _ ([] : List (S52)) _ _ y367 t370 t371 _ ?side1 ?side2 ?side3 ?side4 ?side5 A4.out).mono ?_); (case side1 => exact Kd.C_nil _ _); (case side2 => exact Nat.le_refl _); (case side3 => repeat (first | exact (Kd.R_reads' HO369.out).2.2 | (with_reducible refine Kd.C_alloc ?_ _) | (with_reducible refine Kd.C_drewN ?_ _) | (with_reducible refine Kd.C_drew ?_))); (case side4 => exact (Kd.R_reads' HO369.out).2.1); (case side5 => repeat (first | exact (Kd.C_below HRG0.out HB.out) | (with_reducible refine Kd.C_alloc ?_ _) | (with_reducible refine Kd.C_drewN ?_ _) | (with_reducible refine Kd.C_drew ?_))); rintro e w36 ⟨rfl, hb⟩; refine ⟨_, rfl, ?_⟩; replace HO362 := Aside0.mk (Kd.R_below (by (with_reducible repeat (first | apply Kd.R_alloc | apply Kd.R_drewN | apply Kd.R_drew)); exact HO362.out) hb); replace HO369 := Aside0.mk (Kd.R_below (by (with_reducible repeat (first | apply Kd.R_alloc | apply Kd.R_drewN | apply Kd.R_drew)); exact HO369.out) hb); replace HB := sh_b (w := w) hb; (try clear hb); (try clear hb2); (try clear hk); (try clear hi)) | ((with_reducible refine gate_callee (f := 24) rfl ?_); refine sh_call (some 32) Tryd.func24 #[] ?_; (with_reducible refine (stockadelaw04_exit.calls  t372 t373 t374 t375 t376 _ A5.out).mono ?_); rintro e w37 ⟨rfl, hb⟩; refine ⟨_, rfl, ?_⟩; replace HO362 := Aside0.mk (Kd.R_below (by (with_reducible repeat (first | apply Kd.R_alloc | apply Kd.R_drewN | apply Kd.R_drew)); exact HO362.out) hb); replace HO369 := Aside0.mk (Kd.R_below (by (with_reducible repeat (first | apply Kd.R_alloc | apply Kd.R_drewN | apply Kd.R_drew)); exact HO369.out) hb); replace HB := sh_b (w := w) hb; (try clear hb); (try clear hb2); (try clear hk); (try clear hi)) | ((with_reducible refine gate_dst (N := 33) rfl ?_); (try (refine gate_guard (by rfl) ?_; dsimp only)); refine Kd.R_lit k40 _ 40 ?hg (N := 33) ?hd (xs := ([(⟨24, 0, 0, 0, 0⟩ : S40), (⟨0, 0, 0, 0, 0⟩ : S40), (⟨t372, t373, t374, t375, t376⟩ : S40)] : List (S40))) (inner := [.int .u8 24, .int .u8 0, .int .u8 0, .int .i16 0, .int .i32 0, .int .u8 0, .int .u8 0, .int .u8 0, .int .i16 0, .int .i32 0, .int .u8 t372, .int .u8 t373, .int .u8 t374, .int .i16 t375, .int .i32 t376]) (ok := fun _ => True) (okp := fun _ => True) ?hr ?hp (fun _ hk => hk) trivial (Below.refl _ _) (Nat.le_refl _) (by simp) ?_; (case hd => rfl); (case hg => rfl); (case hr => first | (go_simp; done) | (go_simp; rfl)); (case hp => exact (Reps.c5 (show Kd.M k40 _ _ _ (⟨24, 0, 0, 0, 0⟩ : S40) [.int .u8 24, .int .u8 0, .int .u8 0, .int .i16 0, .int .i32 0] from (k40_mkM _ _ _ (⟨24, 0, 0, 0, 0⟩ : S40) )) (Reps.c5 (show Kd.M k40 _ _ _ (⟨0, 0, 0, 0, 0⟩ : S40) [.int .u8 0, .int .u8 0, .int .u8 0, .int .i16 0, .int .i32 0] from (k40_mkM _ _ _ (⟨0, 0, 0, 0, 0⟩ : S40) )) (Reps.c5 (show Kd.M k40 _ _ _ (⟨t372, t373, t374, t375, t376⟩ : S40) [.int .u8 t372, .int .u8 t373, .int .u8 t374, .int .i16 t375, .int .i32 t376] from (k40_mkM _ _ _ (⟨t372, t373, t374, t375, t376⟩ : S40) )) (Reps.none _ _))))); intro v378 w38 ho39 hb hg_ hnew_; clear hg_ hnew_; (first | rw [← Ny377.out] at ho39 | (simp only [Int.reduceToNat] at ho39; rw [← Ny377.out] at ho39)); have HO379 := Aside0.mk (Kd.R_lower (Kd.R_new' (Kd.R_new' ho39 (Kd.R_lt (by (with_reducible repeat (first | apply Kd.R_alloc | apply Kd.R_drewN | apply Kd.R_drew)); exact HO362.out))) (Kd.R_lt (by (with_reducible repeat (first | apply Kd.R_alloc | apply Kd.R_drewN | apply Kd.R_drew)); exact HO369.out))) (below_size b_now)); replace HO362 := Aside0.mk (Kd.R_elder' (by (with_reducible repeat (first | apply Kd.R_alloc | apply Kd.R_drewN | apply Kd.R_drew)); exact HO362.out) (Kd.R_base ho39) hb); replace HO369 := Aside0.mk (Kd.R_elder' (by (with_reducible repeat (first | apply Kd.R_alloc | apply Kd.R_drewN | apply Kd.R_drew)); exact HO369.out) (Kd.R_base ho39) hb); replace HB := sh_b (w := w) hb; clear hb ho39; obtain ⟨Ao40, co40, eo40⟩ := Kd.R_slice HO379.out; subst eo40) | ((with_reducible refine gate_callee (f := 15) rfl ?_); refine sh_call (some 34) Tryd.func15 #[.slice Ao40 y377.length co40] ?_; (with_reducible refine (shape_Starts.calls _ _ y377 t380 _ ?side1 ?side2 ?side3 A6.out).mono ?_); (case side1 => repeat (first | exact (Kd.R_reads' HO379.out).2.2 | (with_reducible refine Kd.C_alloc ?_ _) | (with_reducible refine Kd.C_drewN ?_ _) | (with_reducible refine Kd.C_drew ?_))); (case side2 => exact (Kd.R_reads' HO379.out).2.1); (case side3 => repeat (first | exact (Kd.C_below HRG0.out HB.out) | (with_reducible refine Kd.C_alloc ?_ _) | (with_reducible refine Kd.C_drewN ?_ _) | (with_reducible refine Kd.C_drew ?_))); rintro e w41 ⟨v381, rfl, ho0, hb⟩; refine ⟨_, rfl, ?_⟩; have HO382 := Aside0.mk (Kd.R_lower ho0 (below_size b_now)); replace HO362 := Aside0.mk (Kd.R_below (by (with_reducible repeat (first | apply Kd.R_alloc | apply Kd.R_drewN | apply Kd.R_drew)); exact HO362.out) hb); replace HO369 := Aside0.mk (Kd.R_below (by (with_reducible repeat (first | apply Kd.R_alloc | apply Kd.R_drewN | apply Kd.R_drew)); exact HO369.out) hb); replace HO379 := Aside0.mk (Kd.R_below (by (with_reducible repeat (first | apply Kd.R_alloc | apply Kd.R_drewN | apply Kd.R_drew)); exact HO379.out) hb); replace HB := sh_b (w := w) hb; (try clear hb); (try clear hb2); (try clear hk); (try clear hi); (try clear ho0); obtain ⟨Ao42, co42, eo42⟩ := Kd.R_slice HO382.out; subst eo42; have p383 : 0 ≤ (0 : Int) := (by omega); have q383 : 0 < (t380.length : Int) := of_decide_eq_true (by first | (with_reducible assumption) | assumption); obtain ⟨ad383, e383, hx383_0⟩ := Kd.at_bool (Kd.R_reads' HO382.out).2.2 0 p383 q383; (try rw [← Nbq14.out] at hx383_0); (try rw [← Nbq17.out] at hx383_0); (try rw [← Nbq20.out] at hx383_0); cases e383; have qi383 : (0 < t380.length) = True := eq_true (by omega); (try rw [show ((0 : Int)).toNat = 0 from rfl] at hx383_0); (try rw [Addr.add_zero'] at hx383_0); replace p383 := eq_true p383; replace q383 := eq_true q383; have p384 : 0 ≤ (1 : Int) := (by omega); have q384 : 1 < (t380.length : Int) := of_decide_eq_true (by first | (with_reducible assumption) | assumption); obtain ⟨ad384, e384, hx384_0⟩ := Kd.at_bool (Kd.R_reads' HO382.out).2.2 1 p384 q384; (try rw [← Nbq14.out] at hx384_0); (try rw [← Nbq17.out] at hx384_0); (try rw [← Nbq20.out] at hx384_0); obtain rfl : ad383 = ad384 := (by injection e384); (try simp only [show (1 : Int).toNat = 1 from rfl, Nat.reduceMul, Nat.reduceEqDiff, Go.Addr.add, ↓reduceIte] at hx384_0); have qi384 : (1 < t380.length) = True := eq_true (by omega); (try rw [show ((1 : Int)).toNat = 1 from rfl] at hx384_0); replace p384 := eq_true p384; replace q384 := eq_true q384; have p385 : 0 ≤ (2 : Int) := (by omega); have q385 : 2 < (t380.length : Int) := of_decide_eq_true (by first | (with_reducible assumption) | assumption); obtain ⟨ad385, e385, hx385_0⟩ := Kd.at_bool (Kd.R_reads' HO382.out).2.2 2 p385 q385; (try rw [← Nbq14.out] at hx385_0); (try rw [← Nbq17.out] at hx385_0); (try rw [← Nbq20.out] at hx385_0); obtain rfl : ad383 = ad385 := (by injection e385); (try simp only [show (2 : Int).toNat = 2 from rfl, Nat.reduceMul, Nat.reduceEqDiff, Go.Addr.add, ↓reduceIte] at hx385_0); have qi385 : (2 < t380.length) = True := eq_true (by omega); (try rw [show ((2 : Int)).toNat = 2 from rfl] at hx385_0); replace p385 := eq_true p385; replace q385 := eq_true q385) | (go_at_call 19; (with_reducible refine (shape_Target.calls 5 5 0 0 (-6) 0 t386 _ A22.out).mono ?_); rintro e w43 ⟨rfl, hb⟩; replace HO362 := Aside0.mk (Kd.R_below (by (with_reducible repeat (first | apply Kd.R_alloc | apply Kd.R_drewN | apply Kd.R_drew)); exact HO362.out) hb); replace HO369 := Aside0.mk (Kd.R_below (by (with_reducible repeat (first | apply Kd.R_alloc | apply Kd.R_drewN | apply Kd.R_drew)); exact HO369.out) hb); replace HO379 := Aside0.mk (Kd.R_below (by (with_reducible repeat (first | apply Kd.R_alloc | apply Kd.R_drewN | apply Kd.R_drew)); exact HO379.out) hb); replace HO382 := Aside0.mk (Kd.R_below (by (with_reducible repeat (first | apply Kd.R_alloc | apply Kd.R_drewN | apply Kd.R_drew)); exact HO382.out) hb); replace HB := sh_b (w := w) hb; (try clear hb); (try clear hb2); (try clear hk); (try clear hi)) | (go_at_call 17; (with_reducible refine (shape_Helper.calls 7 true _ A24.out).mono ?_); rintro e w' ⟨rfl, ⟨nd, rfl⟩⟩) | (go_at_call 17; (with_reducible refine (shape_Helper.calls 4 t388 _ A26.out).mono ?_); rintro e w' ⟨rfl, ⟨nd, rfl⟩⟩))
               go_ret
               exact ⟨ret_now, b_now⟩
              ·replace c25 := Bool.eq_false_iff.mpr c25
               subst c25
               replace H := sh_f H
               obtain rfl := Option.some.inj H
               exact absurd HRT.out (by simp)
             ·rw [if_neg c23] at H
              have c23b0 : (t386 == 0) = false := beq_eq_false_iff_ne.mpr c23
              have c23b1 : (t386 != 0) = true := bne_iff_ne.mpr c23
              obtain rfl := Option.some.inj H
              exact absurd HRT.out (by simp)
            ·replace c21 := Bool.eq_false_iff.mpr c21
             subst c21
             replace H := sh_f H
             obtain rfl := Option.some.inj H
             exact absurd HRT.out (by simp)
           ·rw [if_neg c19] at H
            exact absurd H (by simp)
         ·rw [if_neg c16] at H
          exact absurd H (by simp)
        ·replace c15 := Bool.eq_false_iff.mpr c15
         subst c15
         replace H := sh_f H
         obtain rfl := Option.some.inj H
         exact absurd HRT.out (by simp)
       ·rw [if_neg c13] at H
        exact absurd H (by simp)
      ·rw [if_neg c12] at H
       have c12b0 : ((t380.length : Int) == 3) = false := beq_eq_false_iff_ne.mpr c12
       have c12b1 : ((t380.length : Int) != 3) = true := bne_iff_ne.mpr c12
       obtain rfl := Option.some.inj H
       exact absurd HRT.out (by simp)
     ·rw [if_neg c11] at H
      have c11b0 : (t371 == 25) = false := beq_eq_false_iff_ne.mpr c11
      have c11b1 : (t371 != 25) = true := bne_iff_ne.mpr c11
      obtain rfl := Option.some.inj H
      exact absurd HRT.out (by simp)
    ·rw [if_neg c10] at H
     have c10b0 : (t370 == 1) = false := beq_eq_false_iff_ne.mpr c10
     have c10b1 : (t370 != 1) = true := bne_iff_ne.mpr c10
     obtain rfl := Option.some.inj H
     exact absurd HRT.out (by simp)
   ·rw [if_neg c9] at H
    have c9b0 : (t366 == 4) = false := beq_eq_false_iff_ne.mpr c9
    have c9b1 : (t366 != 4) = true := bne_iff_ne.mpr c9
    obtain rfl := Option.some.inj H
    exact absurd HRT.out (by simp)
  ·rw [if_neg c8] at H
   have c8b0 : (t364 == 0) = false := beq_eq_false_iff_ne.mpr c8
   have c8b1 : (t364 != 0) = true := bne_iff_ne.mpr c8
   obtain rfl := Option.some.inj H
   exact absurd HRT.out (by simp)
 ·rw [if_neg c7] at H
  have c7b0 : (t363 == 0) = false := beq_eq_false_iff_ne.mpr c7
  have c7b1 : (t363 != 0) = true := bne_iff_ne.mpr c7
  obtain rfl := Option.some.inj H
  exact absurd HRT.out (by simp)

/-! ### stockadelaw04_same: function 14 -/
mutual
def stockadelaw04_same.j0 : Nat → Bool → List (S52) → List (S40) → List (S52) → List (S40) → Option (Bool)
 | 0, _, _, _, _, _ => none
 | k + 1, x22, x390000, x390001, x391000, x391001 => if x22 = true then (some false) else (stockadelaw04_same.l0 k (x390000.length : Int) 0 x390000 x390001 x391000 x391001)
def stockadelaw04_same.l0 : Nat → Int → Int → List (S52) → List (S40) → List (S52) → List (S40) → Option (Bool)
 | 0, _, _, _, _, _, _ => none
 | k + 1, x25, x26, x390000, x390001, x391000, x391001 => if x26 < x25 then (if 0 ≤ x26 then (if x26 < (x390000.length : Int) then (if x26 < (x391000.length : Int) then (if (!(((rd_T52 x390000 x26).f0) == ((rd_T52 x391000 x26).f0)) || (!(((rd_T52 x390000 x26).f1) == ((rd_T52 x391000 x26).f1)) || (!(((rd_T52 x390000 x26).f2) == ((rd_T52 x391000 x26).f2)) || (!(((rd_T52 x390000 x26).f3) == ((rd_T52 x391000 x26).f3)))))) = true then (some false) else (stockadelaw04_same.l0 k x25 (wrap64 (x26 + 1)) x390000 x390001 x391000 x391001)) else (none)) else (none)) else (none)) else (stockadelaw04_same.l1 k (x390001.length : Int) 0 x390000 x390001 x391000 x391001)
def stockadelaw04_same.l1 : Nat → Int → Int → List (S52) → List (S40) → List (S52) → List (S40) → Option (Bool)
 | 0, _, _, _, _, _, _ => none
 | k + 1, x43, x44, x390000, x390001, x391000, x391001 => if x44 < x43 then (if 0 ≤ x44 then (if x44 < (x390001.length : Int) then (if x44 < (x391001.length : Int) then (if (!(((rd_T40 x390001 x44).f0) == ((rd_T40 x391001 x44).f0)) || (!(((rd_T40 x390001 x44).f1) == ((rd_T40 x391001 x44).f1)) || (!(((rd_T40 x390001 x44).f2) == ((rd_T40 x391001 x44).f2)) || (!(((rd_T40 x390001 x44).f3) == ((rd_T40 x391001 x44).f3)) || (!(((rd_T40 x390001 x44).f4) == ((rd_T40 x391001 x44).f4))))))) = true then (some false) else (stockadelaw04_same.l1 k x43 (wrap64 (x44 + 1)) x390000 x390001 x391000 x391001)) else (none)) else (none)) else (none)) else (some true)
end
def stockadelaw04_same.f (k : Nat) (l0_0 : List (S52)) (l0_1 : List (S40)) (l1_0 : List (S52)) (l1_1 : List (S40)) : Option (Bool) := if (l0_0.length : Int) = (l1_0.length : Int) then (stockadelaw04_same.j0 k ((l0_1.length : Int) != (l1_1.length : Int)) l0_0 l0_1 l1_0 l1_1) else (stockadelaw04_same.j0 k true l0_0 l0_1 l1_0 l1_1)
theorem stockadelaw04_same.mono_l : ∀ k, (∀ y0 y1 y2 y3 y4, LeO (stockadelaw04_same.j0 k y0 y1 y2 y3 y4) (stockadelaw04_same.j0 (k + 1) y0 y1 y2 y3 y4)) ∧ (∀ y0 y1 y2 y3 y4 y5, LeO (stockadelaw04_same.l0 k y0 y1 y2 y3 y4 y5) (stockadelaw04_same.l0 (k + 1) y0 y1 y2 y3 y4 y5)) ∧ (∀ y0 y1 y2 y3 y4 y5, LeO (stockadelaw04_same.l1 k y0 y1 y2 y3 y4 y5) (stockadelaw04_same.l1 (k + 1) y0 y1 y2 y3 y4 y5))
 | 0 => ⟨fun _ _ _ _ _ r h => by simp [stockadelaw04_same.j0] at h, fun _ _ _ _ _ _ r h => by simp [stockadelaw04_same.l0] at h, fun _ _ _ _ _ _ r h => by simp [stockadelaw04_same.l1] at h⟩
 | k + 1 => by
  obtain ⟨ih0, ih1, ih2⟩ := stockadelaw04_same.mono_l k
  refine ⟨?_, ?_, ?_⟩
  ·intro y0 y1 y2 y3 y4
   unfold stockadelaw04_same.j0
   repeat' first
   | (with_reducible exact ih0 _ _ _ _ _)
   | (with_reducible exact ih1 _ _ _ _ _ _)
   | (with_reducible exact ih2 _ _ _ _ _ _)
   | (with_reducible exact LeO.refl _)
   | (with_reducible exact LeO.none _)
   | (with_reducible refine LeO.ite ?_ ?_)
   | (with_reducible refine LeO.bind ?_ (fun _ => ?_))
   | exact ih0 _ _ _ _ _
   | exact ih1 _ _ _ _ _ _
   | exact ih2 _ _ _ _ _ _
   | exact LeO.none _
   | refine LeO.ite ?_ ?_
   | refine LeO.bind ?_ (fun _ => ?_)
  ·intro y0 y1 y2 y3 y4 y5
   unfold stockadelaw04_same.l0
   repeat' first
   | (with_reducible exact ih0 _ _ _ _ _)
   | (with_reducible exact ih1 _ _ _ _ _ _)
   | (with_reducible exact ih2 _ _ _ _ _ _)
   | (with_reducible exact LeO.refl _)
   | (with_reducible exact LeO.none _)
   | (with_reducible refine LeO.ite ?_ ?_)
   | (with_reducible refine LeO.bind ?_ (fun _ => ?_))
   | exact ih0 _ _ _ _ _
   | exact ih1 _ _ _ _ _ _
   | exact ih2 _ _ _ _ _ _
   | exact LeO.none _
   | refine LeO.ite ?_ ?_
   | refine LeO.bind ?_ (fun _ => ?_)
  ·intro y0 y1 y2 y3 y4 y5
   unfold stockadelaw04_same.l1
   repeat' first
   | (with_reducible exact ih0 _ _ _ _ _)
   | (with_reducible exact ih1 _ _ _ _ _ _)
   | (with_reducible exact ih2 _ _ _ _ _ _)
   | (with_reducible exact LeO.refl _)
   | (with_reducible exact LeO.none _)
   | (with_reducible refine LeO.ite ?_ ?_)
   | (with_reducible refine LeO.bind ?_ (fun _ => ?_))
   | exact ih0 _ _ _ _ _
   | exact ih1 _ _ _ _ _ _
   | exact ih2 _ _ _ _ _ _
   | exact LeO.none _
   | refine LeO.ite ?_ ?_
   | refine LeO.bind ?_ (fun _ => ?_)
theorem stockadelaw04_same.mono : ∀ a0 a1 a2 a3 k, LeO (stockadelaw04_same.f k a0 a1 a2 a3) (stockadelaw04_same.f (k + 1) a0 a1 a2 a3) := by
 intro a0 a1 a2 a3 k
 obtain ⟨ih0, ih1, ih2⟩ := stockadelaw04_same.mono_l k
 unfold stockadelaw04_same.f
 repeat' first
   | (with_reducible exact ih0 _ _ _ _ _)
   | (with_reducible exact ih1 _ _ _ _ _ _)
   | (with_reducible exact ih2 _ _ _ _ _ _)
   | (with_reducible exact LeO.refl _)
   | (with_reducible exact LeO.none _)
   | (with_reducible refine LeO.ite ?_ ?_)
   | (with_reducible refine LeO.bind ?_ (fun _ => ?_))
   | exact ih0 _ _ _ _ _
   | exact ih1 _ _ _ _ _ _
   | exact ih2 _ _ _ _ _ _
   | exact LeO.none _
   | refine LeO.ite ?_ ?_
   | refine LeO.bind ?_ (fun _ => ?_)
set_option maxHeartbeats 8000000 in
set_option maxRecDepth 100000 in
theorem stockadelaw04_same.calls (k : Nat) (A0_0 : Option Addr) (c0_0 : Nat) (l0_0 : List (S52)) (A0_1 : Option Addr) (c0_1 : Nat) (l0_1 : List (S40)) (A1_0 : Option Addr) (c1_0 : Nat) (l1_0 : List (S52)) (A1_1 : Option Addr) (c1_1 : Nat) (l1_1 : List (S40)) (r : Bool) (w : World) (hr0_0 : Kd.C k52 w A0_0 l0_0.length l0_0) (hc0_0 : l0_0.length ≤ c0_0) (hr0_1 : Kd.C k40 w A0_1 l0_1.length l0_1) (hc0_1 : l0_1.length ≤ c0_1) (hr1_0 : Kd.C k52 w A1_0 l1_0.length l1_0) (hc1_0 : l1_0.length ≤ c1_0) (hr1_1 : Kd.C k40 w A1_1 l1_1.length l1_1) (hc1_1 : l1_1.length ≤ c1_1) (h : stockadelaw04_same.f k l0_0 l0_1 l1_0 l1_1 = some r) :
  Calls Tryd.prog 14 #[.agg #[.slice A0_0 l0_0.length c0_0, .slice A0_1 l0_1.length c0_1], .agg #[.slice A1_0 l1_0.length c1_0, .slice A1_1 l1_1.length c1_1]] w fun e w' => e = .returned (.bool r) ∧ Below w.heap.size w w' := by
 have hu25 := Tryd.underlying25
 have hu52 := Tryd.underlying52
 have hu40 := Tryd.underlying40
 have HR0_0 := Aside0.mk hr0_0
 have HC0_0 := Aside0.mk hc0_0
 clear hr0_0 hc0_0
 have HR0_1 := Aside0.mk hr0_1
 have HC0_1 := Aside0.mk hc0_1
 clear hr0_1 hc0_1
 have HR1_0 := Aside0.mk hr1_0
 have HC1_0 := Aside0.mk hc1_0
 clear hr1_0 hc1_0
 have HR1_1 := Aside0.mk hr1_1
 have HC1_1 := Aside0.mk hc1_1
 clear hr1_1 hc1_1
 have HB := Aside0.mk (Below.refl w.heap.size w)
 have H : (if (l0_0.length : Int) = (l1_0.length : Int) then (stockadelaw04_same.j0 k ((l0_1.length : Int) != (l1_1.length : Int)) l0_0 l0_1 l1_0 l1_1) else (stockadelaw04_same.j0 k true l0_0 l0_1 l1_0 l1_1)) = some r := h
 clear h
 have HC3 := Aside0.mk H
 clear H
 go_enter Tryd.func14, Tryd.ntmps14
 go_upto_region 1 with (first | ((with_reducible refine gate_dst (N := 2) rfl ?_); (try (refine gate_guard (by rfl) ?_; dsimp only)); refine sh_box 2 #[.slice A0_0 l0_0.length c0_0, .slice A0_1 l0_1.length c0_1] 25 ?_; intro gb389 hg w4 hbox hb; have GE389 := sh_z (w := w) hg; replace HB := sh_b (w := w) hb; have BK389 := Aside0.mk (hbox); clear hb hbox hg) | ((with_reducible refine gate_dst (N := 3) rfl ?_); (try (refine gate_guard (by rfl) ?_; dsimp only)); refine sh_box 3 #[.slice A1_0 l1_0.length c1_0, .slice A1_1 l1_1.length c1_1] 25 ?_; intro gb390 hg w5 hbox hb; have GE390 := sh_z (w := w) hg; have NB389_390 := sh_n BK389 hg; have NB390_389 := sh_s NB389_390; replace BK389 := sh_k BK389 hb; replace HB := sh_b (w := w) hb; have BK390 := Aside0.mk (hbox); clear hb hbox hg))
 repeat (go_quiet (first | ((with_reducible refine gate_dst (N := 2) rfl ?_); (try (refine gate_guard (by rfl) ?_; dsimp only)); refine sh_box 2 #[.slice A0_0 l0_0.length c0_0, .slice A0_1 l0_1.length c0_1] 25 ?_; intro gb389 hg w4 hbox hb; have GE389 := sh_z (w := w) hg; replace HB := sh_b (w := w) hb; have BK389 := Aside0.mk (hbox); clear hb hbox hg) | ((with_reducible refine gate_dst (N := 3) rfl ?_); (try (refine gate_guard (by rfl) ?_; dsimp only)); refine sh_box 3 #[.slice A1_0 l1_0.length c1_0, .slice A1_1 l1_1.length c1_1] 25 ?_; intro gb390 hg w5 hbox hb; have GE390 := sh_z (w := w) hg; have NB389_390 := sh_n BK389 hg; have NB390_389 := sh_s NB389_390; replace BK389 := sh_k BK389 hb; replace HB := sh_b (w := w) hb; have BK390 := Aside0.mk (hbox); clear hb hbox hg)); go_upto_region 1 with (first | ((with_reducible refine gate_dst (N := 2) rfl ?_); (try (refine gate_guard (by rfl) ?_; dsimp only)); refine sh_box 2 #[.slice A0_0 l0_0.length c0_0, .slice A0_1 l0_1.length c0_1] 25 ?_; intro gb389 hg w4 hbox hb; have GE389 := sh_z (w := w) hg; replace HB := sh_b (w := w) hb; have BK389 := Aside0.mk (hbox); clear hb hbox hg) | ((with_reducible refine gate_dst (N := 3) rfl ?_); (try (refine gate_guard (by rfl) ?_; dsimp only)); refine sh_box 3 #[.slice A1_0 l1_0.length c1_0, .slice A1_1 l1_1.length c1_1] 25 ?_; intro gb390 hg w5 hbox hb; have GE390 := sh_z (w := w) hg; have NB389_390 := sh_n BK389 hg; have NB390_389 := sh_s NB389_390; replace BK389 := sh_k BK389 hb; replace HB := sh_b (w := w) hb; have BK390 := Aside0.mk (hbox); clear hb hbox hg)))
 (try simp only [Act.put, List.setIfInBounds_toArray, List.set_cons_zero, List.set_cons_succ])
 go_cut [22] (fun v22 wc => ∃ (kq : Nat) (x22_2 : Bool), v22 = .bool x22_2 ∧ Aside0 (stockadelaw04_same.j0 kq x22_2 l0_0 l0_1 l1_0 l1_1 = some r) ∧ Aside0 (kq ≤ k) ∧ Aside0 (wc.heap[gb389]? = some (.cells #[(.slice A0_0 l0_0.length c0_0), (.slice A0_1 l0_1.length c0_1)] 25 (0, 0))) ∧ Aside0 (wc.heap[gb390]? = some (.cells #[(.slice A1_0 l1_0.length c1_0), (.slice A1_1 l1_1.length c1_1)] 25 (0, 0))) ∧ Aside0 (Below w.heap.size w wc))
 case first =>
  have H := HC3.out
  clear HC3
  by_cases c6 : (l0_0.length : Int) = (l1_0.length : Int)
  ·rw [if_pos c6] at H
   have c6b0 : ((l0_0.length : Int) == (l1_0.length : Int)) = true := beq_iff_eq.mpr c6
   have c6b1 : ((l0_0.length : Int) != (l1_0.length : Int)) = false := bne_eq_false_iff_eq.mpr c6
   have c6b2 : (l0_0.length == l1_0.length) = true := by first | simpa using c6 | (simp at c6 ⊢; omega)
   clear c6
   (first | rw [c6b0] | (simp only [i64_w, i32_w]; rw [c6b0]) | skip)
   have H' := Aside0.mk H
   clear H
   have hnb7 := NB389_390.out
   have hnc7 := NB390_389.out
   have hcz8 := blk_all2 BK389.out
   have hcz9 := blk_all2 BK390.out
   go_wp2
   repeat (go_quiet (fail); try go_wp2)
   go_meet
   case rel => exact ⟨_, (((l0_1.length : Int) != (l1_1.length : Int))), eq_now, H', ⟨by first | omega | exact Nat.le_refl _⟩, ⟨bk_now⟩, ⟨bk_now⟩, ⟨b_now⟩⟩
  ·rw [if_neg c6] at H
   have c6b0 : ((l0_0.length : Int) == (l1_0.length : Int)) = false := beq_eq_false_iff_ne.mpr c6
   have c6b1 : ((l0_0.length : Int) != (l1_0.length : Int)) = true := bne_iff_ne.mpr c6
   have c6b2 : (l0_0.length == l1_0.length) = false := by first | simpa using c6 | (simp at c6 ⊢; omega)
   (first | rw [c6b0] | (simp only [i64_w, i32_w]; rw [c6b0]) | skip)
   have H' := Aside0.mk H
   clear H
   have hnb10 := NB389_390.out
   have hnc10 := NB390_389.out
   have hcz11 := blk_all2 BK389.out
   have hcz12 := blk_all2 BK390.out
   go_wp2
   repeat (go_quiet (fail); try go_wp2)
   go_meet
   case rel => exact ⟨_, (true), eq_now, H', ⟨by first | omega | exact Nat.le_refl _⟩, ⟨bk_now⟩, ⟨bk_now⟩, ⟨b_now⟩⟩
 case rest =>
  clear HC3
  try clear c1
  try clear p2
  try clear c6
  try clear c6b0
  try clear c6b1
  try clear c6b2
  try clear c7
  try clear c10
  try clear hcz11
  try clear hcz12
  try clear hcz8
  try clear hcz9
  obtain ⟨kq, x22_2, rfl, HA, HJ2, BK389, BK390, HB⟩ := hcut
  cases kq with
  | zero => exact absurd HA.out (by simp [stockadelaw04_same.j0])
  | succ kj2 =>
   have H := HA.out
   clear HA
   simp only [stockadelaw04_same.j0] at H
   by_cases c13 : x22_2 = true
   ·subst c13
    replace H := sh_t H
    obtain rfl := Option.some.inj H
    go_wp2
    repeat (go_quiet (fail); try go_wp2)
    go_ret
    exact ⟨ret_now, b_now⟩
   ·replace c13 := Bool.eq_false_iff.mpr c13
    subst c13
    replace H := sh_f H
    have H' := Aside0.mk H
    clear H
    have hnb14 := NB389_390.out
    have hnc14 := NB390_389.out
    have hcz15 := blk_all2 BK389.out
    go_wp2
    repeat (go_quiet (fail); try go_wp2)
    go_loopg [26] kj2 (fun kq v26 w' => ∃ (x26_2 : Int), v26 = .int .i64 x26_2 ∧ Aside0 (stockadelaw04_same.l0 kq (l0_0.length : Int) x26_2 l0_0 l0_1 l1_0 l1_1 = some r) ∧ Aside0 (kq ≤ kj2) ∧ Aside0 (w'.heap[gb389]? = some (.cells #[(.slice A0_0 l0_0.length c0_0), (.slice A0_1 l0_1.length c0_1)] 25 (0, 0))) ∧ Aside0 (w'.heap[gb390]? = some (.cells #[(.slice A1_0 l1_0.length c1_0), (.slice A1_1 l1_1.length c1_1)] 25 (0, 0))) ∧ Aside0 (Below w.heap.size w w'))
    case atStart => exact ⟨(0), eq_now, H', ⟨Nat.le_refl _⟩, ⟨bk_now⟩, ⟨bk_now⟩, ⟨b_now⟩⟩
    case round =>
     clear H'
     try clear c1
     try clear p2
     try clear c6
     try clear c6b0
     try clear c6b1
     try clear c6b2
     try clear c7
     try clear c10
     try clear c13
     try clear c14
     try clear hcz11
     try clear hcz12
     try clear hcz15
     try clear hcz8
     try clear hcz9
     try clear p2
     obtain ⟨x26_2, rfl, HA, HK2, BK389, BK390, HB⟩ := hrel
     cases gk with
     | zero => exact absurd HA.out (by simp [stockadelaw04_same.l0])
     | succ k2 =>
      have H := HA.out
      clear HA
      simp only [stockadelaw04_same.l0] at H
      by_cases c16 : x26_2 < (l0_0.length : Int)
      ·rw [if_pos c16] at H
       have c16b0 : decide (x26_2 < (l0_0.length : Int)) = true := decide_eq_true c16
       clear c16
       by_cases c17 : 0 ≤ x26_2
       ·rw [if_pos c17] at H
        have c17b0 : decide (0 ≤ x26_2) = true := decide_eq_true c17
        clear c17
        by_cases c18 : x26_2 < (l0_0.length : Int)
        ·rw [if_pos c18] at H
         have c18b0 : decide (x26_2 < (l0_0.length : Int)) = true := decide_eq_true c18
         clear c18
         by_cases c19 : x26_2 < (l1_0.length : Int)
         ·rw [if_pos c19] at H
          have c19b0 : decide (x26_2 < (l1_0.length : Int)) = true := decide_eq_true c19
          clear c19
          by_cases c20 : (!(((rd_T52 l0_0 x26_2).f0) == ((rd_T52 l1_0 x26_2).f0)) || (!(((rd_T52 l0_0 x26_2).f1) == ((rd_T52 l1_0 x26_2).f1)) || (!(((rd_T52 l0_0 x26_2).f2) == ((rd_T52 l1_0 x26_2).f2)) || (!(((rd_T52 l0_0 x26_2).f3) == ((rd_T52 l1_0 x26_2).f3)))))) = true
          ·rw [if_pos c20] at H
           have c20b0 : (!(((rd_T52 l0_0 x26_2).f0) == ((rd_T52 l1_0 x26_2).f0)) || (!(((rd_T52 l0_0 x26_2).f1) == ((rd_T52 l1_0 x26_2).f1)) || (!(((rd_T52 l0_0 x26_2).f2) == ((rd_T52 l1_0 x26_2).f2)) || (!(((rd_T52 l0_0 x26_2).f3) == ((rd_T52 l1_0 x26_2).f3)))))) = true := c20
           clear c20
           obtain rfl := Option.some.inj H
           have hnb21 := NB389_390.out
           have hnc21 := NB390_389.out
           have hcz22 := blk_all2 BK389.out
           have p391 : 0 ≤ (x26_2 : Int) := of_decide_eq_true (by first | (with_reducible assumption) | assumption)
           have q391 : x26_2 < (l0_0.length : Int) := of_decide_eq_true (by first | (with_reducible assumption) | assumption)
           obtain ⟨ad391, e391, hx391_0, hx391_1, hx391_2, hx391_3⟩ := at_T52 HR0_0.out x26_2 p391 q391
           cases e391
           replace hx391_0 := (HB.out.cell (World.block_lt_of_cell? w _ hx391_0)).trans hx391_0
           replace hx391_1 := (HB.out.cell (World.block_lt_of_cell? w _ hx391_1)).trans hx391_1
           replace hx391_2 := (HB.out.cell (World.block_lt_of_cell? w _ hx391_2)).trans hx391_2
           replace hx391_3 := (HB.out.cell (World.block_lt_of_cell? w _ hx391_3)).trans hx391_3
           replace p391 := eq_true p391
           replace q391 := eq_true q391
           have hcz23 := blk_all2 BK390.out
           have p392 : 0 ≤ (x26_2 : Int) := of_decide_eq_true (by first | (with_reducible assumption) | assumption)
           have q392 : x26_2 < (l1_0.length : Int) := of_decide_eq_true (by first | (with_reducible assumption) | assumption)
           obtain ⟨ad392, e392, hx392_0, hx392_1, hx392_2, hx392_3⟩ := at_T52 HR1_0.out x26_2 p392 q392
           cases e392
           replace hx392_0 := (HB.out.cell (World.block_lt_of_cell? w _ hx392_0)).trans hx392_0
           replace hx392_1 := (HB.out.cell (World.block_lt_of_cell? w _ hx392_1)).trans hx392_1
           replace hx392_2 := (HB.out.cell (World.block_lt_of_cell? w _ hx392_2)).trans hx392_2
           replace hx392_3 := (HB.out.cell (World.block_lt_of_cell? w _ hx392_3)).trans hx392_3
           replace p392 := eq_true p392
           replace q392 := eq_true q392
           go_wp2
           repeat (go_quiet (fail); try go_wp2)
           go_ret
           exact ⟨ret_now, b_now⟩
          ·rw [if_neg c20] at H
           have c20b0 : (!(((rd_T52 l0_0 x26_2).f0) == ((rd_T52 l1_0 x26_2).f0)) || (!(((rd_T52 l0_0 x26_2).f1) == ((rd_T52 l1_0 x26_2).f1)) || (!(((rd_T52 l0_0 x26_2).f2) == ((rd_T52 l1_0 x26_2).f2)) || (!(((rd_T52 l0_0 x26_2).f3) == ((rd_T52 l1_0 x26_2).f3)))))) = false := by simpa using c20
           clear c20
           have H' := Aside0.mk H
           clear H
           have hnb24 := NB389_390.out
           have hnc24 := NB390_389.out
           have hcz25 := blk_all2 BK389.out
           have p391 : 0 ≤ (x26_2 : Int) := of_decide_eq_true (by first | (with_reducible assumption) | assumption)
           have q391 : x26_2 < (l0_0.length : Int) := of_decide_eq_true (by first | (with_reducible assumption) | assumption)
           obtain ⟨ad391, e391, hx391_0, hx391_1, hx391_2, hx391_3⟩ := at_T52 HR0_0.out x26_2 p391 q391
           cases e391
           replace hx391_0 := (HB.out.cell (World.block_lt_of_cell? w _ hx391_0)).trans hx391_0
           replace hx391_1 := (HB.out.cell (World.block_lt_of_cell? w _ hx391_1)).trans hx391_1
           replace hx391_2 := (HB.out.cell (World.block_lt_of_cell? w _ hx391_2)).trans hx391_2
           replace hx391_3 := (HB.out.cell (World.block_lt_of_cell? w _ hx391_3)).trans hx391_3
           replace p391 := eq_true p391
           replace q391 := eq_true q391
           have hcz26 := blk_all2 BK390.out
           have p392 : 0 ≤ (x26_2 : Int) := of_decide_eq_true (by first | (with_reducible assumption) | assumption)
           have q392 : x26_2 < (l1_0.length : Int) := of_decide_eq_true (by first | (with_reducible assumption) | assumption)
           obtain ⟨ad392, e392, hx392_0, hx392_1, hx392_2, hx392_3⟩ := at_T52 HR1_0.out x26_2 p392 q392
           cases e392
           replace hx392_0 := (HB.out.cell (World.block_lt_of_cell? w _ hx392_0)).trans hx392_0
           replace hx392_1 := (HB.out.cell (World.block_lt_of_cell? w _ hx392_1)).trans hx392_1
           replace hx392_2 := (HB.out.cell (World.block_lt_of_cell? w _ hx392_2)).trans hx392_2
           replace hx392_3 := (HB.out.cell (World.block_lt_of_cell? w _ hx392_3)).trans hx392_3
           replace p392 := eq_true p392
           replace q392 := eq_true q392
           go_wp2
           repeat (go_quiet (fail); try go_wp2)
           go_roundg k2
           case measure => have := HJ2.out; have := HK2.out; omega
           case rel => exact ⟨(wrap64 (x26_2 + 1)), eq_now, H', ⟨by have := HJ2.out; have := HK2.out; omega⟩, ⟨bk_now⟩, ⟨bk_now⟩, ⟨b_now⟩⟩
         ·rw [if_neg c19] at H
          exact absurd H (by simp)
        ·rw [if_neg c18] at H
         exact absurd H (by simp)
       ·rw [if_neg c17] at H
        exact absurd H (by simp)
      ·rw [if_neg c16] at H
       have c16b0 : decide (x26_2 < (l0_0.length : Int)) = false := decide_eq_false c16
       clear c16
       have H' := Aside0.mk H
       clear H
       have hnb27 := NB389_390.out
       have hnc27 := NB390_389.out
       have hcz28 := blk_all2 BK389.out
       go_wp2
       repeat (go_quiet (fail); try go_wp2)
       go_loopg [44] k2 (fun kq v44 w' => ∃ (x44_3 : Int), v44 = .int .i64 x44_3 ∧ Aside0 (stockadelaw04_same.l1 kq (l0_1.length : Int) x44_3 l0_0 l0_1 l1_0 l1_1 = some r) ∧ Aside0 (kq ≤ k2) ∧ Aside0 (w'.heap[gb389]? = some (.cells #[(.slice A0_0 l0_0.length c0_0), (.slice A0_1 l0_1.length c0_1)] 25 (0, 0))) ∧ Aside0 (w'.heap[gb390]? = some (.cells #[(.slice A1_0 l1_0.length c1_0), (.slice A1_1 l1_1.length c1_1)] 25 (0, 0))) ∧ Aside0 (Below w.heap.size w w'))
       case atStart => exact ⟨(0), eq_now, H', ⟨Nat.le_refl _⟩, ⟨bk_now⟩, ⟨bk_now⟩, ⟨b_now⟩⟩
       case round =>
        clear H'
        try clear c1
        try clear c2
        try clear p2
        try clear p3
        try clear q3
        try clear hx3
        try clear c6
        try clear c6b0
        try clear c6b1
        try clear c6b2
        try clear p6
        try clear c7
        try clear c10
        try clear c13
        try clear c14
        try clear c16
        try clear c16b0
        try clear c17
        try clear c17b0
        try clear c18
        try clear c18b0
        try clear c19
        try clear c19b0
        try clear c20
        try clear c20b0
        try clear c21
        try clear c24
        try clear c27
        try clear hcz11
        try clear hcz12
        try clear hcz15
        try clear hcz22
        try clear hcz23
        try clear hcz25
        try clear hcz26
        try clear hcz28
        try clear hcz8
        try clear hcz9
        try clear hx391_0
        try clear hx391_1
        try clear hx391_2
        try clear hx391_3
        try clear hx392_0
        try clear hx392_1
        try clear hx392_2
        try clear hx392_3
        try clear p2
        try clear p391
        try clear p392
        try clear q391
        try clear q392
        obtain ⟨x44_3, rfl, HA, HK3, BK389, BK390, HB⟩ := hrel
        cases gk with
        | zero => exact absurd HA.out (by simp [stockadelaw04_same.l1])
        | succ k3 =>
         have H := HA.out
         clear HA
         simp only [stockadelaw04_same.l1] at H
         by_cases c29 : x44_3 < (l0_1.length : Int)
         ·rw [if_pos c29] at H
          have c29b0 : decide (x44_3 < (l0_1.length : Int)) = true := decide_eq_true c29
          clear c29
          by_cases c30 : 0 ≤ x44_3
          ·rw [if_pos c30] at H
           have c30b0 : decide (0 ≤ x44_3) = true := decide_eq_true c30
           clear c30
           by_cases c31 : x44_3 < (l0_1.length : Int)
           ·rw [if_pos c31] at H
            have c31b0 : decide (x44_3 < (l0_1.length : Int)) = true := decide_eq_true c31
            clear c31
            by_cases c32 : x44_3 < (l1_1.length : Int)
            ·rw [if_pos c32] at H
             have c32b0 : decide (x44_3 < (l1_1.length : Int)) = true := decide_eq_true c32
             clear c32
             by_cases c33 : (!(((rd_T40 l0_1 x44_3).f0) == ((rd_T40 l1_1 x44_3).f0)) || (!(((rd_T40 l0_1 x44_3).f1) == ((rd_T40 l1_1 x44_3).f1)) || (!(((rd_T40 l0_1 x44_3).f2) == ((rd_T40 l1_1 x44_3).f2)) || (!(((rd_T40 l0_1 x44_3).f3) == ((rd_T40 l1_1 x44_3).f3)) || (!(((rd_T40 l0_1 x44_3).f4) == ((rd_T40 l1_1 x44_3).f4))))))) = true
             ·rw [if_pos c33] at H
              have c33b0 : (!(((rd_T40 l0_1 x44_3).f0) == ((rd_T40 l1_1 x44_3).f0)) || (!(((rd_T40 l0_1 x44_3).f1) == ((rd_T40 l1_1 x44_3).f1)) || (!(((rd_T40 l0_1 x44_3).f2) == ((rd_T40 l1_1 x44_3).f2)) || (!(((rd_T40 l0_1 x44_3).f3) == ((rd_T40 l1_1 x44_3).f3)) || (!(((rd_T40 l0_1 x44_3).f4) == ((rd_T40 l1_1 x44_3).f4))))))) = true := c33
              clear c33
              obtain rfl := Option.some.inj H
              have hnb34 := NB389_390.out
              have hnc34 := NB390_389.out
              have hcz35 := blk_all2 BK389.out
              have p393 : 0 ≤ (x44_3 : Int) := of_decide_eq_true (by first | (with_reducible assumption) | assumption)
              have q393 : x44_3 < (l0_1.length : Int) := of_decide_eq_true (by first | (with_reducible assumption) | assumption)
              obtain ⟨ad393, e393, hx393_0, hx393_1, hx393_2, hx393_3, hx393_4⟩ := at_T40 HR0_1.out x44_3 p393 q393
              cases e393
              replace hx393_0 := (HB.out.cell (World.block_lt_of_cell? w _ hx393_0)).trans hx393_0
              replace hx393_1 := (HB.out.cell (World.block_lt_of_cell? w _ hx393_1)).trans hx393_1
              replace hx393_2 := (HB.out.cell (World.block_lt_of_cell? w _ hx393_2)).trans hx393_2
              replace hx393_3 := (HB.out.cell (World.block_lt_of_cell? w _ hx393_3)).trans hx393_3
              replace hx393_4 := (HB.out.cell (World.block_lt_of_cell? w _ hx393_4)).trans hx393_4
              replace p393 := eq_true p393
              replace q393 := eq_true q393
              have hcz36 := blk_all2 BK390.out
              have p394 : 0 ≤ (x44_3 : Int) := of_decide_eq_true (by first | (with_reducible assumption) | assumption)
              have q394 : x44_3 < (l1_1.length : Int) := of_decide_eq_true (by first | (with_reducible assumption) | assumption)
              obtain ⟨ad394, e394, hx394_0, hx394_1, hx394_2, hx394_3, hx394_4⟩ := at_T40 HR1_1.out x44_3 p394 q394
              cases e394
              replace hx394_0 := (HB.out.cell (World.block_lt_of_cell? w _ hx394_0)).trans hx394_0
              replace hx394_1 := (HB.out.cell (World.block_lt_of_cell? w _ hx394_1)).trans hx394_1
              replace hx394_2 := (HB.out.cell (World.block_lt_of_cell? w _ hx394_2)).trans hx394_2
              replace hx394_3 := (HB.out.cell (World.block_lt_of_cell? w _ hx394_3)).trans hx394_3
              replace hx394_4 := (HB.out.cell (World.block_lt_of_cell? w _ hx394_4)).trans hx394_4
              replace p394 := eq_true p394
              replace q394 := eq_true q394
              go_wp2
              repeat (go_quiet (fail); try go_wp2)
              go_ret
              exact ⟨ret_now, b_now⟩
             ·rw [if_neg c33] at H
              have c33b0 : (!(((rd_T40 l0_1 x44_3).f0) == ((rd_T40 l1_1 x44_3).f0)) || (!(((rd_T40 l0_1 x44_3).f1) == ((rd_T40 l1_1 x44_3).f1)) || (!(((rd_T40 l0_1 x44_3).f2) == ((rd_T40 l1_1 x44_3).f2)) || (!(((rd_T40 l0_1 x44_3).f3) == ((rd_T40 l1_1 x44_3).f3)) || (!(((rd_T40 l0_1 x44_3).f4) == ((rd_T40 l1_1 x44_3).f4))))))) = false := by simpa using c33
              clear c33
              have H' := Aside0.mk H
              clear H
              have hnb37 := NB389_390.out
              have hnc37 := NB390_389.out
              have hcz38 := blk_all2 BK389.out
              have p393 : 0 ≤ (x44_3 : Int) := of_decide_eq_true (by first | (with_reducible assumption) | assumption)
              have q393 : x44_3 < (l0_1.length : Int) := of_decide_eq_true (by first | (with_reducible assumption) | assumption)
              obtain ⟨ad393, e393, hx393_0, hx393_1, hx393_2, hx393_3, hx393_4⟩ := at_T40 HR0_1.out x44_3 p393 q393
              cases e393
              replace hx393_0 := (HB.out.cell (World.block_lt_of_cell? w _ hx393_0)).trans hx393_0
              replace hx393_1 := (HB.out.cell (World.block_lt_of_cell? w _ hx393_1)).trans hx393_1
              replace hx393_2 := (HB.out.cell (World.block_lt_of_cell? w _ hx393_2)).trans hx393_2
              replace hx393_3 := (HB.out.cell (World.block_lt_of_cell? w _ hx393_3)).trans hx393_3
              replace hx393_4 := (HB.out.cell (World.block_lt_of_cell? w _ hx393_4)).trans hx393_4
              replace p393 := eq_true p393
              replace q393 := eq_true q393
              have hcz39 := blk_all2 BK390.out
              have p394 : 0 ≤ (x44_3 : Int) := of_decide_eq_true (by first | (with_reducible assumption) | assumption)
              have q394 : x44_3 < (l1_1.length : Int) := of_decide_eq_true (by first | (with_reducible assumption) | assumption)
              obtain ⟨ad394, e394, hx394_0, hx394_1, hx394_2, hx394_3, hx394_4⟩ := at_T40 HR1_1.out x44_3 p394 q394
              cases e394
              replace hx394_0 := (HB.out.cell (World.block_lt_of_cell? w _ hx394_0)).trans hx394_0
              replace hx394_1 := (HB.out.cell (World.block_lt_of_cell? w _ hx394_1)).trans hx394_1
              replace hx394_2 := (HB.out.cell (World.block_lt_of_cell? w _ hx394_2)).trans hx394_2
              replace hx394_3 := (HB.out.cell (World.block_lt_of_cell? w _ hx394_3)).trans hx394_3
              replace hx394_4 := (HB.out.cell (World.block_lt_of_cell? w _ hx394_4)).trans hx394_4
              replace p394 := eq_true p394
              replace q394 := eq_true q394
              go_wp2
              repeat (go_quiet (fail); try go_wp2)
              go_roundg k3
              case measure => have := HJ2.out; have := HK2.out; have := HK3.out; omega
              case rel => exact ⟨(wrap64 (x44_3 + 1)), eq_now, H', ⟨by have := HJ2.out; have := HK2.out; have := HK3.out; omega⟩, ⟨bk_now⟩, ⟨bk_now⟩, ⟨b_now⟩⟩
            ·rw [if_neg c32] at H
             exact absurd H (by simp)
           ·rw [if_neg c31] at H
            exact absurd H (by simp)
          ·rw [if_neg c30] at H
           exact absurd H (by simp)
         ·rw [if_neg c29] at H
          have c29b0 : decide (x44_3 < (l0_1.length : Int)) = false := decide_eq_false c29
          clear c29
          obtain rfl := Option.some.inj H
          go_wp2
          repeat (go_quiet (fail); try go_wp2)
          go_ret
          exact ⟨ret_now, b_now⟩

end Go.Proofs.YtdhiibkcoolbeaaDoor.P
