/- Made by this session's driver over the kit's printer: for each Go function a Lean function with the same answers, and a proof that the Go call comes to these answers; no conditions but the ones each theorem names. -/
import Derived.Test.YtkjcjlegokdpdaaDoorPx0
import Derived.Test.YtkjcjlegokdpdaaDoorPx13
namespace Go.Proofs.YtkjcjlegokdpdaaDoor.P
open Go.RowKit Go.Proofs.YtkjcjlegokdpdaaDoorW.PrintWords Go.Proofs.YtkjcjlegokdpdaaDoorW.PrintLast Go.Proofs.YtkjcjlegokdpdaaDoorW.PrintMore
attribute [local go_sem] max2_int min2_int max_two min_two max_three min_three max_four min_four   -- for this text's walks alone
set_option linter.unusedVariables false
set_option linter.unusedSimpArgs false

/-! ### stockaderef02_Of: function 38 -/
def stockaderef02_Of.j0 : Nat → Bool → Int → Int → Int → Int → Int → Int → Int → Int → Int → Bool → Bool → Int → Int → Int → Int → Int → Option (Int × Int × Int × Bool × Bool × Int)
 | 0, _, _, _, _, _, _, _, _, _, _, _, _, _, _, _, _, _ => none
 | k + 1, x25, x350000, x350001, x350002, x350003, x350004, x364000, x364001, x364002, x364003, x364004, x364005, x364006, x364007, x364008, x364009, x364010 => if x25 = true then (some (0, 0, 0, false, false, 21)) else (if x364006 = 0 then (if x350001 = 0 then (if x364007 = 0 then (if x350002 = 0 then (if x364008 = 0 then (if x350003 = 0 then (if x364009 = 0 then (if x350004 = 0 then (some (x364001, x364002, x364003, x364004, x364005, 0)) else (some (0, 0, 0, false, false, 22))) else (some (x364001, x364002, x364003, x364004, x364005, 0))) else (some (0, 0, 0, false, false, 22))) else (if x364009 = 0 then (if x350004 = 0 then (some (x364001, x364002, x364003, x364004, x364005, 0)) else (some (0, 0, 0, false, false, 22))) else (some (x364001, x364002, x364003, x364004, x364005, 0)))) else (some (0, 0, 0, false, false, 22))) else (if x364008 = 0 then (if x350003 = 0 then (if x364009 = 0 then (if x350004 = 0 then (some (x364001, x364002, x364003, x364004, x364005, 0)) else (some (0, 0, 0, false, false, 22))) else (some (x364001, x364002, x364003, x364004, x364005, 0))) else (some (0, 0, 0, false, false, 22))) else (if x364009 = 0 then (if x350004 = 0 then (some (x364001, x364002, x364003, x364004, x364005, 0)) else (some (0, 0, 0, false, false, 22))) else (some (x364001, x364002, x364003, x364004, x364005, 0))))) else (some (0, 0, 0, false, false, 22))) else (if x364007 = 0 then (if x350002 = 0 then (if x364008 = 0 then (if x350003 = 0 then (if x364009 = 0 then (if x350004 = 0 then (some (x364001, x364002, x364003, x364004, x364005, 0)) else (some (0, 0, 0, false, false, 22))) else (some (x364001, x364002, x364003, x364004, x364005, 0))) else (some (0, 0, 0, false, false, 22))) else (if x364009 = 0 then (if x350004 = 0 then (some (x364001, x364002, x364003, x364004, x364005, 0)) else (some (0, 0, 0, false, false, 22))) else (some (x364001, x364002, x364003, x364004, x364005, 0)))) else (some (0, 0, 0, false, false, 22))) else (if x364008 = 0 then (if x350003 = 0 then (if x364009 = 0 then (if x350004 = 0 then (some (x364001, x364002, x364003, x364004, x364005, 0)) else (some (0, 0, 0, false, false, 22))) else (some (x364001, x364002, x364003, x364004, x364005, 0))) else (some (0, 0, 0, false, false, 22))) else (if x364009 = 0 then (if x350004 = 0 then (some (x364001, x364002, x364003, x364004, x364005, 0)) else (some (0, 0, 0, false, false, 22))) else (some (x364001, x364002, x364003, x364004, x364005, 0))))))
def stockaderef02_Of.f (k : Nat) (a0_0 : Int) (a0_1 : Int) (a0_2 : Int) (a0_3 : Int) (a0_4 : Int) : Option (Int × Int × Int × Bool × Bool × Int) := (stockaderef02_Find.f k a0_0 a0_1 a0_2 a0_3 a0_4).bind fun bt351 => (if bt351.2.2.2.2.2.2.2.2.2.2.2 = true then ((stockaderef02_wrong.f bt351.2.2.2.2.2.2.1 a0_1).bind fun t364 => (if t364 = true then (stockaderef02_Of.j0 k true a0_0 a0_1 a0_2 a0_3 a0_4 bt351.1 bt351.2.1 bt351.2.2.1 bt351.2.2.2.1 bt351.2.2.2.2.1 bt351.2.2.2.2.2.1 bt351.2.2.2.2.2.2.1 bt351.2.2.2.2.2.2.2.1 bt351.2.2.2.2.2.2.2.2.1 bt351.2.2.2.2.2.2.2.2.2.1 bt351.2.2.2.2.2.2.2.2.2.2.1) else ((stockaderef02_wrong.f bt351.2.2.2.2.2.2.2.1 a0_2).bind fun t365 => (stockaderef02_Of.j0 k t365 a0_0 a0_1 a0_2 a0_3 a0_4 bt351.1 bt351.2.1 bt351.2.2.1 bt351.2.2.2.1 bt351.2.2.2.2.1 bt351.2.2.2.2.2.1 bt351.2.2.2.2.2.2.1 bt351.2.2.2.2.2.2.2.1 bt351.2.2.2.2.2.2.2.2.1 bt351.2.2.2.2.2.2.2.2.2.1 bt351.2.2.2.2.2.2.2.2.2.2.1)))) else (some (0, 0, 0, false, false, 20)))
theorem stockaderef02_Of.mono_l : ∀ k, (∀ y0 y1 y2 y3 y4 y5 y6 y7 y8 y9 y10 y11 y12 y13 y14 y15 y16, LeO (stockaderef02_Of.j0 k y0 y1 y2 y3 y4 y5 y6 y7 y8 y9 y10 y11 y12 y13 y14 y15 y16) (stockaderef02_Of.j0 (k + 1) y0 y1 y2 y3 y4 y5 y6 y7 y8 y9 y10 y11 y12 y13 y14 y15 y16))
 | 0 => fun _ _ _ _ _ _ _ _ _ _ _ _ _ _ _ _ _ r h => by simp [stockaderef02_Of.j0] at h
 | k + 1 => by
  have ih0 := stockaderef02_Of.mono_l k
  ·intro y0 y1 y2 y3 y4 y5 y6 y7 y8 y9 y10 y11 y12 y13 y14 y15 y16
   unfold stockaderef02_Of.j0
   repeat' first
   | (with_reducible exact ih0 _ _ _ _ _ _ _ _ _ _ _ _ _ _ _ _ _)
   | (with_reducible exact stockaderef02_Find.mono _ _ _ _ _ _)
   | (with_reducible exact LeO.refl _)
   | (with_reducible exact LeO.none _)
   | (with_reducible refine LeO.ite ?_ ?_)
   | (with_reducible refine LeO.bind ?_ (fun _ => ?_))
   | exact ih0 _ _ _ _ _ _ _ _ _ _ _ _ _ _ _ _ _
   | exact stockaderef02_Find.mono _ _ _ _ _ _
   | exact LeO.none _
   | refine LeO.ite ?_ ?_
   | refine LeO.bind ?_ (fun _ => ?_)
theorem stockaderef02_Of.mono : ∀ a0 a1 a2 a3 a4 k, LeO (stockaderef02_Of.f k a0 a1 a2 a3 a4) (stockaderef02_Of.f (k + 1) a0 a1 a2 a3 a4) := by
 intro a0 a1 a2 a3 a4 k
 have ih0 := stockaderef02_Of.mono_l k
 unfold stockaderef02_Of.f
 repeat' first
   | (with_reducible exact ih0 _ _ _ _ _ _ _ _ _ _ _ _ _ _ _ _ _)
   | (with_reducible exact stockaderef02_Find.mono _ _ _ _ _ _)
   | (with_reducible exact LeO.refl _)
   | (with_reducible exact LeO.none _)
   | (with_reducible refine LeO.ite ?_ ?_)
   | (with_reducible refine LeO.bind ?_ (fun _ => ?_))
   | exact ih0 _ _ _ _ _ _ _ _ _ _ _ _ _ _ _ _ _
   | exact stockaderef02_Find.mono _ _ _ _ _ _
   | exact LeO.none _
   | refine LeO.ite ?_ ?_
   | refine LeO.bind ?_ (fun _ => ?_)
set_option maxHeartbeats 8000000 in
set_option maxRecDepth 100000 in
theorem stockaderef02_Of.calls (k : Nat) (a0_0 : Int) (a0_1 : Int) (a0_2 : Int) (a0_3 : Int) (a0_4 : Int) (r1 : Int) (r2 : Int) (r3 : Int) (r4 : Bool) (r5 : Bool) (r6 : Int) (w : World) (h : stockaderef02_Of.f k a0_0 a0_1 a0_2 a0_3 a0_4 = some (r1, r2, r3, r4, r5, r6)) :
  Calls Tryd.prog 38 #[.agg #[.int .u8 a0_0, .int .u8 a0_1, .int .u8 a0_2, .int .i16 a0_3, .int .i32 a0_4]] w fun e w' => e = .returned (.tuple #[.agg #[.int .i64 r1, .int .i64 r2, .int .i64 r3, .bool r4, .bool r5], .int .i64 r6]) ∧ Below w.heap.size w w' := by
 have hu44 := Tryd.underlying44
 have hu69 := Tryd.underlying69
 have hu82 := Tryd.underlying82
 have HB := Aside0.mk (Below.refl w.heap.size w)
 have H : ((stockaderef02_Find.f k a0_0 a0_1 a0_2 a0_3 a0_4).bind fun bt351 => (if bt351.2.2.2.2.2.2.2.2.2.2.2 = true then ((stockaderef02_wrong.f bt351.2.2.2.2.2.2.1 a0_1).bind fun t364 => (if t364 = true then (stockaderef02_Of.j0 k true a0_0 a0_1 a0_2 a0_3 a0_4 bt351.1 bt351.2.1 bt351.2.2.1 bt351.2.2.2.1 bt351.2.2.2.2.1 bt351.2.2.2.2.2.1 bt351.2.2.2.2.2.2.1 bt351.2.2.2.2.2.2.2.1 bt351.2.2.2.2.2.2.2.2.1 bt351.2.2.2.2.2.2.2.2.2.1 bt351.2.2.2.2.2.2.2.2.2.2.1) else ((stockaderef02_wrong.f bt351.2.2.2.2.2.2.2.1 a0_2).bind fun t365 => (stockaderef02_Of.j0 k t365 a0_0 a0_1 a0_2 a0_3 a0_4 bt351.1 bt351.2.1 bt351.2.2.1 bt351.2.2.2.1 bt351.2.2.2.2.1 bt351.2.2.2.2.2.1 bt351.2.2.2.2.2.2.1 bt351.2.2.2.2.2.2.2.1 bt351.2.2.2.2.2.2.2.2.1 bt351.2.2.2.2.2.2.2.2.2.1 bt351.2.2.2.2.2.2.2.2.2.2.1)))) else (some (0, 0, 0, false, false, 20)))) = some (r1, r2, r3, r4, r5, r6) := h
 clear h
 replace H := Option.bind_eq_some_iff.mp H; obtain ⟨⟨t351, t352, t353, t354, t355, t356, t357, t358, t359, t360, t361, t362⟩, A20, H⟩ := H; try dsimp only at H
 have A2 := Aside0.mk A20
 clear A20
 by_cases c3 : t362 = true
 ·subst c3
  replace H := sh_t H
  have HC4 := Aside0.mk H
  clear H
  go_enter Tryd.func38, Tryd.ntmps38
  go_upto_region 4 with (first | ((with_reducible refine gate_dst (N := 1) rfl ?_); refine sh_box 1 #[.int .u8 a0_0, .int .u8 a0_1, .int .u8 a0_2, .int .i16 a0_3, .int .i32 a0_4] 44 ?_; intro gb349 hg w5 hbox hb; have GE349 := sh_z (w := w) hg; replace HB := sh_b (w := w) hb; have BK349 := Aside0.mk (hbox); clear hb hbox hg) | ((with_reducible refine gate_dst (N := 2) rfl ?_); refine sh_box 2 #[.int .i64 0, .int .i64 0, .int .i64 0, .bool false, .bool false] 69 ?_; intro gb350 hg w6 hbox hb; have GE350 := sh_z (w := w) hg; have NB349_350 := sh_n BK349 hg; have NB350_349 := sh_s NB349_350; replace BK349 := sh_k BK349 hb; replace HB := sh_b (w := w) hb; have BK350 := Aside0.mk (hbox); clear hb hbox hg; have hnb7 := NB349_350.out; have hnc7 := NB350_349.out; have hcz8 := blk_all5 BK349.out) | ((with_reducible refine gate_callee (f := 48) rfl ?_); refine sh_call (some 8) Tryd.func48 #[.agg #[.int .u8 a0_0, .int .u8 a0_1, .int .u8 a0_2, .int .i16 a0_3, .int .i32 a0_4]] ?_; (with_reducible refine (stockaderef02_Find.calls k a0_0 a0_1 a0_2 a0_3 a0_4 t351 t352 t353 t354 t355 t356 t357 t358 t359 t360 t361 true _ A2.out).mono ?_); rintro e w9 ⟨rfl, hb⟩; refine ⟨_, rfl, ?_⟩; replace BK349 := sh_k BK349 hb; replace BK350 := sh_k BK350 hb; replace HB := sh_b (w := w) hb; (try clear hb); (try clear hb2); (try clear hk); (try clear hi)) | ((with_reducible refine gate_dst (N := 4) rfl ?_); refine sh_box 4 #[.int .u8 0, .int .i64 0, .int .i64 0, .int .i64 0, .bool false, .bool false, .int .i64 0, .int .i64 0, .int .i64 0, .int .i64 0, .int .i64 0] 82 ?_; intro gb363 hg w10 hbox hb; have GE363 := sh_z (w := w) hg; have NB349_363 := sh_n BK349 hg; have NB350_363 := sh_n BK350 hg; have NB363_349 := sh_s NB349_363; have NB363_350 := sh_s NB350_363; replace BK349 := sh_k BK349 hb; replace BK350 := sh_k BK350 hb; replace HB := sh_b (w := w) hb; have BK363 := Aside0.mk (hbox); clear hb hbox hg; have hnb11 := NB363_349.out; have hnc11 := NB349_363.out; have hnb12 := NB363_350.out; have hnc12 := NB350_363.out; have hcz13 := blk_all11 BK363.out))
  (try simp only [Act.put, List.setIfInBounds_toArray, List.set_cons_zero, List.set_cons_succ])
  go_cut [25] (fun v25 wc => ∃ (kq : Nat) (x25_3 : Bool), v25 = .bool x25_3 ∧ Aside0 (stockaderef02_Of.j0 kq x25_3 a0_0 a0_1 a0_2 a0_3 a0_4 t351 t352 t353 t354 t355 t356 t357 t358 t359 t360 t361 = some (r1, r2, r3, r4, r5, r6)) ∧ Aside0 (kq ≤ k) ∧ Aside0 (wc.heap[gb349]? = some (.cells #[.int .u8 a0_0, .int .u8 a0_1, .int .u8 a0_2, .int .i16 a0_3, .int .i32 a0_4] 44 (0, 0))) ∧ Aside0 (wc.heap[gb350]? = some (.cells #[.int .i64 0, .int .i64 0, .int .i64 0, .bool false, .bool false] 69 (0, 0))) ∧ Aside0 (wc.heap[gb363]? = some (.cells #[.int .u8 t351, .int .i64 t352, .int .i64 t353, .int .i64 t354, .bool t355, .bool t356, .int .i64 t357, .int .i64 t358, .int .i64 t359, .int .i64 t360, .int .i64 t361] 82 (0, 0))) ∧ Aside0 (Below w.heap.size w wc))
  case first =>
   have H := HC4.out
   clear HC4
   replace H := Option.bind_eq_some_iff.mp H; obtain ⟨t364, A140, H⟩ := H; try dsimp only at H
   have A14 := Aside0.mk A140
   clear A140
   by_cases c15 : t364 = true
   ·subst c15
    replace H := sh_t H
    have H' := Aside0.mk H
    clear H
    have hnb16 := NB363_349.out
    have hnc16 := NB349_363.out
    have hnb17 := NB363_350.out
    have hnc17 := NB350_363.out
    have hcz18 := blk_all11 BK363.out
    have hnb19 := NB349_350.out
    have hnc19 := NB350_349.out
    have hcz20 := blk_all5 BK349.out
    go_wp2_with (first | ((with_reducible refine gate_callee (f := 49) rfl ?_); refine sh_call (some 18) Tryd.func49 #[.int .i64 t357, .int .u8 a0_1] ?_; (with_reducible refine (stockaderef02_wrong.calls t357 a0_1 true _ A14.out).mono ?_); rintro e w' ⟨rfl, ⟨nd, rfl⟩⟩; refine ⟨_, rfl, ?_⟩))
    go_meet
    case rel => exact ⟨_, (true), eq_now, H', ⟨by first | omega | exact Nat.le_refl _⟩, ⟨bk_now⟩, ⟨bk_now⟩, ⟨bk_now⟩, ⟨b_now⟩⟩
   ·replace c15 := Bool.eq_false_iff.mpr c15
    subst c15
    replace H := sh_f H
    replace H := Option.bind_eq_some_iff.mp H; obtain ⟨t365, A210, H⟩ := H; try dsimp only at H
    have A21 := Aside0.mk A210
    clear A210
    have H' := Aside0.mk H
    clear H
    have hnb22 := NB363_349.out
    have hnc22 := NB349_363.out
    have hnb23 := NB363_350.out
    have hnc23 := NB350_363.out
    have hcz24 := blk_all11 BK363.out
    have hnb25 := NB349_350.out
    have hnc25 := NB350_349.out
    have hcz26 := blk_all5 BK349.out
    go_wp2_with (first | ((with_reducible refine gate_callee (f := 49) rfl ?_); refine sh_call (some 18) Tryd.func49 #[.int .i64 t357, .int .u8 a0_1] ?_; (with_reducible refine (stockaderef02_wrong.calls t357 a0_1 false _ A14.out).mono ?_); rintro e w' ⟨rfl, ⟨nd, rfl⟩⟩; refine ⟨_, rfl, ?_⟩) | (go_at_call 49; (with_reducible refine (stockaderef02_wrong.calls t358 a0_2 t365 _ A21.out).mono ?_); rintro e w' ⟨rfl, ⟨nd, rfl⟩⟩))
    go_meet
    case rel => exact ⟨_, (t365), eq_now, H', ⟨by first | omega | exact Nat.le_refl _⟩, ⟨bk_now⟩, ⟨bk_now⟩, ⟨bk_now⟩, ⟨b_now⟩⟩
  case rest =>
   clear HC4
   try clear c1
   try clear c2
   try clear p2
   try clear c3
   try clear c4
   try clear c7
   try clear c11
   try clear c12
   try clear c15
   try clear c16
   try clear c17
   try clear c19
   try clear c22
   try clear c23
   try clear c25
   try clear hcz13
   try clear hcz18
   try clear hcz20
   try clear hcz24
   try clear hcz26
   try clear hcz8
   obtain ⟨kq, x25_3, rfl, HA, HJ3, BK349, BK350, BK363, HB⟩ := hcut
   cases kq with
   | zero => exact absurd HA.out (by simp [stockaderef02_Of.j0])
   | succ kj3 =>
    have H := HA.out
    clear HA
    simp only [stockaderef02_Of.j0] at H
    by_cases c27 : x25_3 = true
    ·subst c27
     replace H := sh_t H
     simp only [Option.some.injEq, Prod.mk.injEq] at H
     obtain ⟨rfl, rfl, rfl, rfl, rfl, rfl⟩ := H
     have hnb28 := NB350_349.out
     have hnc28 := NB349_350.out
     have hnb29 := NB350_363.out
     have hnc29 := NB363_350.out
     have hcz30 := blk_all5 BK350.out
     go_wp2
     refine bodyPost_ret (results_ct rfl _ _ gb350 69 #[.int .i64 0, .int .i64 0, .int .i64 0, .bool false, .bool false] (0, 0) _ rfl bk_now Tryd.underlying69 rfl (by kernel_rfl)) rfl ?_
     exact ⟨ret_now, b_now⟩
    ·replace c27 := Bool.eq_false_iff.mpr c27
     subst c27
     replace H := sh_f H
     by_cases c31 : t357 = 0
     ·rw [if_pos c31] at H
      have c31b0 : (t357 == 0) = true := beq_iff_eq.mpr c31
      have c31b1 : (t357 != 0) = false := bne_eq_false_iff_eq.mpr c31
      clear c31
      by_cases c32 : a0_1 = 0
      ·rw [if_pos c32] at H
       have c32b0 : (a0_1 == 0) = true := beq_iff_eq.mpr c32
       have c32b1 : (a0_1 != 0) = false := bne_eq_false_iff_eq.mpr c32
       clear c32
       by_cases c33 : t358 = 0
       ·rw [if_pos c33] at H
        have c33b0 : (t358 == 0) = true := beq_iff_eq.mpr c33
        have c33b1 : (t358 != 0) = false := bne_eq_false_iff_eq.mpr c33
        clear c33
        by_cases c34 : a0_2 = 0
        ·rw [if_pos c34] at H
         have c34b0 : (a0_2 == 0) = true := beq_iff_eq.mpr c34
         have c34b1 : (a0_2 != 0) = false := bne_eq_false_iff_eq.mpr c34
         clear c34
         by_cases c35 : t359 = 0
         ·rw [if_pos c35] at H
          have c35b0 : (t359 == 0) = true := beq_iff_eq.mpr c35
          have c35b1 : (t359 != 0) = false := bne_eq_false_iff_eq.mpr c35
          clear c35
          by_cases c36 : a0_3 = 0
          ·rw [if_pos c36] at H
           have c36b0 : (a0_3 == 0) = true := beq_iff_eq.mpr c36
           have c36b1 : (a0_3 != 0) = false := bne_eq_false_iff_eq.mpr c36
           clear c36
           by_cases c37 : t360 = 0
           ·rw [if_pos c37] at H
            have c37b0 : (t360 == 0) = true := beq_iff_eq.mpr c37
            have c37b1 : (t360 != 0) = false := bne_eq_false_iff_eq.mpr c37
            clear c37
            by_cases c38 : a0_4 = 0
            ·rw [if_pos c38] at H
             have c38b0 : (a0_4 == 0) = true := beq_iff_eq.mpr c38
             have c38b1 : (a0_4 != 0) = false := bne_eq_false_iff_eq.mpr c38
             clear c38
             simp only [Option.some.injEq, Prod.mk.injEq] at H
             obtain ⟨rfl, rfl, rfl, rfl, rfl, rfl⟩ := H
             have hnb39 := NB363_349.out
             have hnc39 := NB349_363.out
             have hnb40 := NB363_350.out
             have hnc40 := NB350_363.out
             have hcz41 := blk_all11 BK363.out
             have hnb42 := NB349_350.out
             have hnc42 := NB350_349.out
             have hcz43 := blk_all5 BK349.out
             have hcz44 := blk_all5 BK350.out
             go_wp2
             refine bodyPost_ret (results_ct rfl _ _ gb350 69 #[.int .i64 t352, .int .i64 t353, .int .i64 t354, .bool t355, .bool t356] (0, 0) _ rfl bk_now Tryd.underlying69 rfl (by kernel_rfl)) rfl ?_
             exact ⟨ret_now, b_now⟩
            ·rw [if_neg c38] at H
             have c38b0 : (a0_4 == 0) = false := beq_eq_false_iff_ne.mpr c38
             have c38b1 : (a0_4 != 0) = true := bne_iff_ne.mpr c38
             simp only [Option.some.injEq, Prod.mk.injEq] at H
             obtain ⟨rfl, rfl, rfl, rfl, rfl, rfl⟩ := H
             have hnb45 := NB363_349.out
             have hnc45 := NB349_363.out
             have hnb46 := NB363_350.out
             have hnc46 := NB350_363.out
             have hcz47 := blk_all11 BK363.out
             have hnb48 := NB349_350.out
             have hnc48 := NB350_349.out
             have hcz49 := blk_all5 BK349.out
             have hcz50 := blk_all5 BK350.out
             go_wp2
             refine bodyPost_ret (results_ct rfl _ _ gb350 69 #[.int .i64 0, .int .i64 0, .int .i64 0, .bool false, .bool false] (0, 0) _ rfl bk_now Tryd.underlying69 rfl (by kernel_rfl)) rfl ?_
             exact ⟨ret_now, b_now⟩
           ·rw [if_neg c37] at H
            have c37b0 : (t360 == 0) = false := beq_eq_false_iff_ne.mpr c37
            have c37b1 : (t360 != 0) = true := bne_iff_ne.mpr c37
            simp only [Option.some.injEq, Prod.mk.injEq] at H
            obtain ⟨rfl, rfl, rfl, rfl, rfl, rfl⟩ := H
            have hnb51 := NB363_349.out
            have hnc51 := NB349_363.out
            have hnb52 := NB363_350.out
            have hnc52 := NB350_363.out
            have hcz53 := blk_all11 BK363.out
            have hnb54 := NB349_350.out
            have hnc54 := NB350_349.out
            have hcz55 := blk_all5 BK349.out
            have hcz56 := blk_all5 BK350.out
            go_wp2
            refine bodyPost_ret (results_ct rfl _ _ gb350 69 #[.int .i64 t352, .int .i64 t353, .int .i64 t354, .bool t355, .bool t356] (0, 0) _ rfl bk_now Tryd.underlying69 rfl (by kernel_rfl)) rfl ?_
            exact ⟨ret_now, b_now⟩
          ·rw [if_neg c36] at H
           have c36b0 : (a0_3 == 0) = false := beq_eq_false_iff_ne.mpr c36
           have c36b1 : (a0_3 != 0) = true := bne_iff_ne.mpr c36
           simp only [Option.some.injEq, Prod.mk.injEq] at H
           obtain ⟨rfl, rfl, rfl, rfl, rfl, rfl⟩ := H
           have hnb57 := NB363_349.out
           have hnc57 := NB349_363.out
           have hnb58 := NB363_350.out
           have hnc58 := NB350_363.out
           have hcz59 := blk_all11 BK363.out
           have hnb60 := NB349_350.out
           have hnc60 := NB350_349.out
           have hcz61 := blk_all5 BK349.out
           have hcz62 := blk_all5 BK350.out
           go_wp2
           refine bodyPost_ret (results_ct rfl _ _ gb350 69 #[.int .i64 0, .int .i64 0, .int .i64 0, .bool false, .bool false] (0, 0) _ rfl bk_now Tryd.underlying69 rfl (by kernel_rfl)) rfl ?_
           exact ⟨ret_now, b_now⟩
         ·rw [if_neg c35] at H
          have c35b0 : (t359 == 0) = false := beq_eq_false_iff_ne.mpr c35
          have c35b1 : (t359 != 0) = true := bne_iff_ne.mpr c35
          by_cases c63 : t360 = 0
          ·rw [if_pos c63] at H
           have c63b0 : (t360 == 0) = true := beq_iff_eq.mpr c63
           have c63b1 : (t360 != 0) = false := bne_eq_false_iff_eq.mpr c63
           clear c63
           by_cases c64 : a0_4 = 0
           ·rw [if_pos c64] at H
            have c64b0 : (a0_4 == 0) = true := beq_iff_eq.mpr c64
            have c64b1 : (a0_4 != 0) = false := bne_eq_false_iff_eq.mpr c64
            clear c64
            simp only [Option.some.injEq, Prod.mk.injEq] at H
            obtain ⟨rfl, rfl, rfl, rfl, rfl, rfl⟩ := H
            have hnb65 := NB363_349.out
            have hnc65 := NB349_363.out
            have hnb66 := NB363_350.out
            have hnc66 := NB350_363.out
            have hcz67 := blk_all11 BK363.out
            have hnb68 := NB349_350.out
            have hnc68 := NB350_349.out
            have hcz69 := blk_all5 BK349.out
            have hcz70 := blk_all5 BK350.out
            go_wp2
            refine bodyPost_ret (results_ct rfl _ _ gb350 69 #[.int .i64 t352, .int .i64 t353, .int .i64 t354, .bool t355, .bool t356] (0, 0) _ rfl bk_now Tryd.underlying69 rfl (by kernel_rfl)) rfl ?_
            exact ⟨ret_now, b_now⟩
           ·rw [if_neg c64] at H
            have c64b0 : (a0_4 == 0) = false := beq_eq_false_iff_ne.mpr c64
            have c64b1 : (a0_4 != 0) = true := bne_iff_ne.mpr c64
            simp only [Option.some.injEq, Prod.mk.injEq] at H
            obtain ⟨rfl, rfl, rfl, rfl, rfl, rfl⟩ := H
            have hnb71 := NB363_349.out
            have hnc71 := NB349_363.out
            have hnb72 := NB363_350.out
            have hnc72 := NB350_363.out
            have hcz73 := blk_all11 BK363.out
            have hnb74 := NB349_350.out
            have hnc74 := NB350_349.out
            have hcz75 := blk_all5 BK349.out
            have hcz76 := blk_all5 BK350.out
            go_wp2
            refine bodyPost_ret (results_ct rfl _ _ gb350 69 #[.int .i64 0, .int .i64 0, .int .i64 0, .bool false, .bool false] (0, 0) _ rfl bk_now Tryd.underlying69 rfl (by kernel_rfl)) rfl ?_
            exact ⟨ret_now, b_now⟩
          ·rw [if_neg c63] at H
           have c63b0 : (t360 == 0) = false := beq_eq_false_iff_ne.mpr c63
           have c63b1 : (t360 != 0) = true := bne_iff_ne.mpr c63
           simp only [Option.some.injEq, Prod.mk.injEq] at H
           obtain ⟨rfl, rfl, rfl, rfl, rfl, rfl⟩ := H
           have hnb77 := NB363_349.out
           have hnc77 := NB349_363.out
           have hnb78 := NB363_350.out
           have hnc78 := NB350_363.out
           have hcz79 := blk_all11 BK363.out
           have hnb80 := NB349_350.out
           have hnc80 := NB350_349.out
           have hcz81 := blk_all5 BK349.out
           have hcz82 := blk_all5 BK350.out
           go_wp2
           refine bodyPost_ret (results_ct rfl _ _ gb350 69 #[.int .i64 t352, .int .i64 t353, .int .i64 t354, .bool t355, .bool t356] (0, 0) _ rfl bk_now Tryd.underlying69 rfl (by kernel_rfl)) rfl ?_
           exact ⟨ret_now, b_now⟩
        ·rw [if_neg c34] at H
         have c34b0 : (a0_2 == 0) = false := beq_eq_false_iff_ne.mpr c34
         have c34b1 : (a0_2 != 0) = true := bne_iff_ne.mpr c34
         simp only [Option.some.injEq, Prod.mk.injEq] at H
         obtain ⟨rfl, rfl, rfl, rfl, rfl, rfl⟩ := H
         have hnb83 := NB363_349.out
         have hnc83 := NB349_363.out
         have hnb84 := NB363_350.out
         have hnc84 := NB350_363.out
         have hcz85 := blk_all11 BK363.out
         have hnb86 := NB349_350.out
         have hnc86 := NB350_349.out
         have hcz87 := blk_all5 BK349.out
         have hcz88 := blk_all5 BK350.out
         go_wp2
         refine bodyPost_ret (results_ct rfl _ _ gb350 69 #[.int .i64 0, .int .i64 0, .int .i64 0, .bool false, .bool false] (0, 0) _ rfl bk_now Tryd.underlying69 rfl (by kernel_rfl)) rfl ?_
         exact ⟨ret_now, b_now⟩
       ·rw [if_neg c33] at H
        have c33b0 : (t358 == 0) = false := beq_eq_false_iff_ne.mpr c33
        have c33b1 : (t358 != 0) = true := bne_iff_ne.mpr c33
        by_cases c89 : t359 = 0
        ·rw [if_pos c89] at H
         have c89b0 : (t359 == 0) = true := beq_iff_eq.mpr c89
         have c89b1 : (t359 != 0) = false := bne_eq_false_iff_eq.mpr c89
         clear c89
         by_cases c90 : a0_3 = 0
         ·rw [if_pos c90] at H
          have c90b0 : (a0_3 == 0) = true := beq_iff_eq.mpr c90
          have c90b1 : (a0_3 != 0) = false := bne_eq_false_iff_eq.mpr c90
          clear c90
          by_cases c91 : t360 = 0
          ·rw [if_pos c91] at H
           have c91b0 : (t360 == 0) = true := beq_iff_eq.mpr c91
           have c91b1 : (t360 != 0) = false := bne_eq_false_iff_eq.mpr c91
           clear c91
           by_cases c92 : a0_4 = 0
           ·rw [if_pos c92] at H
            have c92b0 : (a0_4 == 0) = true := beq_iff_eq.mpr c92
            have c92b1 : (a0_4 != 0) = false := bne_eq_false_iff_eq.mpr c92
            clear c92
            simp only [Option.some.injEq, Prod.mk.injEq] at H
            obtain ⟨rfl, rfl, rfl, rfl, rfl, rfl⟩ := H
            have hnb93 := NB363_349.out
            have hnc93 := NB349_363.out
            have hnb94 := NB363_350.out
            have hnc94 := NB350_363.out
            have hcz95 := blk_all11 BK363.out
            have hnb96 := NB349_350.out
            have hnc96 := NB350_349.out
            have hcz97 := blk_all5 BK349.out
            have hcz98 := blk_all5 BK350.out
            go_wp2
            refine bodyPost_ret (results_ct rfl _ _ gb350 69 #[.int .i64 t352, .int .i64 t353, .int .i64 t354, .bool t355, .bool t356] (0, 0) _ rfl bk_now Tryd.underlying69 rfl (by kernel_rfl)) rfl ?_
            exact ⟨ret_now, b_now⟩
           ·rw [if_neg c92] at H
            have c92b0 : (a0_4 == 0) = false := beq_eq_false_iff_ne.mpr c92
            have c92b1 : (a0_4 != 0) = true := bne_iff_ne.mpr c92
            simp only [Option.some.injEq, Prod.mk.injEq] at H
            obtain ⟨rfl, rfl, rfl, rfl, rfl, rfl⟩ := H
            have hnb99 := NB363_349.out
            have hnc99 := NB349_363.out
            have hnb100 := NB363_350.out
            have hnc100 := NB350_363.out
            have hcz101 := blk_all11 BK363.out
            have hnb102 := NB349_350.out
            have hnc102 := NB350_349.out
            have hcz103 := blk_all5 BK349.out
            have hcz104 := blk_all5 BK350.out
            go_wp2
            refine bodyPost_ret (results_ct rfl _ _ gb350 69 #[.int .i64 0, .int .i64 0, .int .i64 0, .bool false, .bool false] (0, 0) _ rfl bk_now Tryd.underlying69 rfl (by kernel_rfl)) rfl ?_
            exact ⟨ret_now, b_now⟩
          ·rw [if_neg c91] at H
           have c91b0 : (t360 == 0) = false := beq_eq_false_iff_ne.mpr c91
           have c91b1 : (t360 != 0) = true := bne_iff_ne.mpr c91
           simp only [Option.some.injEq, Prod.mk.injEq] at H
           obtain ⟨rfl, rfl, rfl, rfl, rfl, rfl⟩ := H
           have hnb105 := NB363_349.out
           have hnc105 := NB349_363.out
           have hnb106 := NB363_350.out
           have hnc106 := NB350_363.out
           have hcz107 := blk_all11 BK363.out
           have hnb108 := NB349_350.out
           have hnc108 := NB350_349.out
           have hcz109 := blk_all5 BK349.out
           have hcz110 := blk_all5 BK350.out
           go_wp2
           refine bodyPost_ret (results_ct rfl _ _ gb350 69 #[.int .i64 t352, .int .i64 t353, .int .i64 t354, .bool t355, .bool t356] (0, 0) _ rfl bk_now Tryd.underlying69 rfl (by kernel_rfl)) rfl ?_
           exact ⟨ret_now, b_now⟩
         ·rw [if_neg c90] at H
          have c90b0 : (a0_3 == 0) = false := beq_eq_false_iff_ne.mpr c90
          have c90b1 : (a0_3 != 0) = true := bne_iff_ne.mpr c90
          simp only [Option.some.injEq, Prod.mk.injEq] at H
          obtain ⟨rfl, rfl, rfl, rfl, rfl, rfl⟩ := H
          have hnb111 := NB363_349.out
          have hnc111 := NB349_363.out
          have hnb112 := NB363_350.out
          have hnc112 := NB350_363.out
          have hcz113 := blk_all11 BK363.out
          have hnb114 := NB349_350.out
          have hnc114 := NB350_349.out
          have hcz115 := blk_all5 BK349.out
          have hcz116 := blk_all5 BK350.out
          go_wp2
          refine bodyPost_ret (results_ct rfl _ _ gb350 69 #[.int .i64 0, .int .i64 0, .int .i64 0, .bool false, .bool false] (0, 0) _ rfl bk_now Tryd.underlying69 rfl (by kernel_rfl)) rfl ?_
          exact ⟨ret_now, b_now⟩
        ·rw [if_neg c89] at H
         have c89b0 : (t359 == 0) = false := beq_eq_false_iff_ne.mpr c89
         have c89b1 : (t359 != 0) = true := bne_iff_ne.mpr c89
         by_cases c117 : t360 = 0
         ·rw [if_pos c117] at H
          have c117b0 : (t360 == 0) = true := beq_iff_eq.mpr c117
          have c117b1 : (t360 != 0) = false := bne_eq_false_iff_eq.mpr c117
          clear c117
          by_cases c118 : a0_4 = 0
          ·rw [if_pos c118] at H
           have c118b0 : (a0_4 == 0) = true := beq_iff_eq.mpr c118
           have c118b1 : (a0_4 != 0) = false := bne_eq_false_iff_eq.mpr c118
           clear c118
           simp only [Option.some.injEq, Prod.mk.injEq] at H
           obtain ⟨rfl, rfl, rfl, rfl, rfl, rfl⟩ := H
           have hnb119 := NB363_349.out
           have hnc119 := NB349_363.out
           have hnb120 := NB363_350.out
           have hnc120 := NB350_363.out
           have hcz121 := blk_all11 BK363.out
           have hnb122 := NB349_350.out
           have hnc122 := NB350_349.out
           have hcz123 := blk_all5 BK349.out
           have hcz124 := blk_all5 BK350.out
           go_wp2
           refine bodyPost_ret (results_ct rfl _ _ gb350 69 #[.int .i64 t352, .int .i64 t353, .int .i64 t354, .bool t355, .bool t356] (0, 0) _ rfl bk_now Tryd.underlying69 rfl (by kernel_rfl)) rfl ?_
           exact ⟨ret_now, b_now⟩
          ·rw [if_neg c118] at H
           have c118b0 : (a0_4 == 0) = false := beq_eq_false_iff_ne.mpr c118
           have c118b1 : (a0_4 != 0) = true := bne_iff_ne.mpr c118
           simp only [Option.some.injEq, Prod.mk.injEq] at H
           obtain ⟨rfl, rfl, rfl, rfl, rfl, rfl⟩ := H
           have hnb125 := NB363_349.out
           have hnc125 := NB349_363.out
           have hnb126 := NB363_350.out
           have hnc126 := NB350_363.out
           have hcz127 := blk_all11 BK363.out
           have hnb128 := NB349_350.out
           have hnc128 := NB350_349.out
           have hcz129 := blk_all5 BK349.out
           have hcz130 := blk_all5 BK350.out
           go_wp2
           refine bodyPost_ret (results_ct rfl _ _ gb350 69 #[.int .i64 0, .int .i64 0, .int .i64 0, .bool false, .bool false] (0, 0) _ rfl bk_now Tryd.underlying69 rfl (by kernel_rfl)) rfl ?_
           exact ⟨ret_now, b_now⟩
         ·rw [if_neg c117] at H
          have c117b0 : (t360 == 0) = false := beq_eq_false_iff_ne.mpr c117
          have c117b1 : (t360 != 0) = true := bne_iff_ne.mpr c117
          simp only [Option.some.injEq, Prod.mk.injEq] at H
          obtain ⟨rfl, rfl, rfl, rfl, rfl, rfl⟩ := H
          have hnb131 := NB363_349.out
          have hnc131 := NB349_363.out
          have hnb132 := NB363_350.out
          have hnc132 := NB350_363.out
          have hcz133 := blk_all11 BK363.out
          have hnb134 := NB349_350.out
          have hnc134 := NB350_349.out
          have hcz135 := blk_all5 BK349.out
          have hcz136 := blk_all5 BK350.out
          go_wp2
          refine bodyPost_ret (results_ct rfl _ _ gb350 69 #[.int .i64 t352, .int .i64 t353, .int .i64 t354, .bool t355, .bool t356] (0, 0) _ rfl bk_now Tryd.underlying69 rfl (by kernel_rfl)) rfl ?_
          exact ⟨ret_now, b_now⟩
      ·rw [if_neg c32] at H
       have c32b0 : (a0_1 == 0) = false := beq_eq_false_iff_ne.mpr c32
       have c32b1 : (a0_1 != 0) = true := bne_iff_ne.mpr c32
       simp only [Option.some.injEq, Prod.mk.injEq] at H
       obtain ⟨rfl, rfl, rfl, rfl, rfl, rfl⟩ := H
       have hnb137 := NB363_349.out
       have hnc137 := NB349_363.out
       have hnb138 := NB363_350.out
       have hnc138 := NB350_363.out
       have hcz139 := blk_all11 BK363.out
       have hnb140 := NB349_350.out
       have hnc140 := NB350_349.out
       have hcz141 := blk_all5 BK349.out
       have hcz142 := blk_all5 BK350.out
       go_wp2
       refine bodyPost_ret (results_ct rfl _ _ gb350 69 #[.int .i64 0, .int .i64 0, .int .i64 0, .bool false, .bool false] (0, 0) _ rfl bk_now Tryd.underlying69 rfl (by kernel_rfl)) rfl ?_
       exact ⟨ret_now, b_now⟩
     ·rw [if_neg c31] at H
      have c31b0 : (t357 == 0) = false := beq_eq_false_iff_ne.mpr c31
      have c31b1 : (t357 != 0) = true := bne_iff_ne.mpr c31
      by_cases c143 : t358 = 0
      ·rw [if_pos c143] at H
       have c143b0 : (t358 == 0) = true := beq_iff_eq.mpr c143
       have c143b1 : (t358 != 0) = false := bne_eq_false_iff_eq.mpr c143
       clear c143
       by_cases c144 : a0_2 = 0
       ·rw [if_pos c144] at H
        have c144b0 : (a0_2 == 0) = true := beq_iff_eq.mpr c144
        have c144b1 : (a0_2 != 0) = false := bne_eq_false_iff_eq.mpr c144
        clear c144
        by_cases c145 : t359 = 0
        ·rw [if_pos c145] at H
         have c145b0 : (t359 == 0) = true := beq_iff_eq.mpr c145
         have c145b1 : (t359 != 0) = false := bne_eq_false_iff_eq.mpr c145
         clear c145
         by_cases c146 : a0_3 = 0
         ·rw [if_pos c146] at H
          have c146b0 : (a0_3 == 0) = true := beq_iff_eq.mpr c146
          have c146b1 : (a0_3 != 0) = false := bne_eq_false_iff_eq.mpr c146
          clear c146
          by_cases c147 : t360 = 0
          ·rw [if_pos c147] at H
           have c147b0 : (t360 == 0) = true := beq_iff_eq.mpr c147
           have c147b1 : (t360 != 0) = false := bne_eq_false_iff_eq.mpr c147
           clear c147
           by_cases c148 : a0_4 = 0
           ·rw [if_pos c148] at H
            have c148b0 : (a0_4 == 0) = true := beq_iff_eq.mpr c148
            have c148b1 : (a0_4 != 0) = false := bne_eq_false_iff_eq.mpr c148
            clear c148
            simp only [Option.some.injEq, Prod.mk.injEq] at H
            obtain ⟨rfl, rfl, rfl, rfl, rfl, rfl⟩ := H
            have hnb149 := NB363_349.out
            have hnc149 := NB349_363.out
            have hnb150 := NB363_350.out
            have hnc150 := NB350_363.out
            have hcz151 := blk_all11 BK363.out
            have hnb152 := NB349_350.out
            have hnc152 := NB350_349.out
            have hcz153 := blk_all5 BK349.out
            have hcz154 := blk_all5 BK350.out
            go_wp2
            refine bodyPost_ret (results_ct rfl _ _ gb350 69 #[.int .i64 t352, .int .i64 t353, .int .i64 t354, .bool t355, .bool t356] (0, 0) _ rfl bk_now Tryd.underlying69 rfl (by kernel_rfl)) rfl ?_
            exact ⟨ret_now, b_now⟩
           ·rw [if_neg c148] at H
            have c148b0 : (a0_4 == 0) = false := beq_eq_false_iff_ne.mpr c148
            have c148b1 : (a0_4 != 0) = true := bne_iff_ne.mpr c148
            simp only [Option.some.injEq, Prod.mk.injEq] at H
            obtain ⟨rfl, rfl, rfl, rfl, rfl, rfl⟩ := H
            have hnb155 := NB363_349.out
            have hnc155 := NB349_363.out
            have hnb156 := NB363_350.out
            have hnc156 := NB350_363.out
            have hcz157 := blk_all11 BK363.out
            have hnb158 := NB349_350.out
            have hnc158 := NB350_349.out
            have hcz159 := blk_all5 BK349.out
            have hcz160 := blk_all5 BK350.out
            go_wp2
            refine bodyPost_ret (results_ct rfl _ _ gb350 69 #[.int .i64 0, .int .i64 0, .int .i64 0, .bool false, .bool false] (0, 0) _ rfl bk_now Tryd.underlying69 rfl (by kernel_rfl)) rfl ?_
            exact ⟨ret_now, b_now⟩
          ·rw [if_neg c147] at H
           have c147b0 : (t360 == 0) = false := beq_eq_false_iff_ne.mpr c147
           have c147b1 : (t360 != 0) = true := bne_iff_ne.mpr c147
           simp only [Option.some.injEq, Prod.mk.injEq] at H
           obtain ⟨rfl, rfl, rfl, rfl, rfl, rfl⟩ := H
           have hnb161 := NB363_349.out
           have hnc161 := NB349_363.out
           have hnb162 := NB363_350.out
           have hnc162 := NB350_363.out
           have hcz163 := blk_all11 BK363.out
           have hnb164 := NB349_350.out
           have hnc164 := NB350_349.out
           have hcz165 := blk_all5 BK349.out
           have hcz166 := blk_all5 BK350.out
           go_wp2
           refine bodyPost_ret (results_ct rfl _ _ gb350 69 #[.int .i64 t352, .int .i64 t353, .int .i64 t354, .bool t355, .bool t356] (0, 0) _ rfl bk_now Tryd.underlying69 rfl (by kernel_rfl)) rfl ?_
           exact ⟨ret_now, b_now⟩
         ·rw [if_neg c146] at H
          have c146b0 : (a0_3 == 0) = false := beq_eq_false_iff_ne.mpr c146
          have c146b1 : (a0_3 != 0) = true := bne_iff_ne.mpr c146
          simp only [Option.some.injEq, Prod.mk.injEq] at H
          obtain ⟨rfl, rfl, rfl, rfl, rfl, rfl⟩ := H
          have hnb167 := NB363_349.out
          have hnc167 := NB349_363.out
          have hnb168 := NB363_350.out
          have hnc168 := NB350_363.out
          have hcz169 := blk_all11 BK363.out
          have hnb170 := NB349_350.out
          have hnc170 := NB350_349.out
          have hcz171 := blk_all5 BK349.out
          have hcz172 := blk_all5 BK350.out
          go_wp2
          refine bodyPost_ret (results_ct rfl _ _ gb350 69 #[.int .i64 0, .int .i64 0, .int .i64 0, .bool false, .bool false] (0, 0) _ rfl bk_now Tryd.underlying69 rfl (by kernel_rfl)) rfl ?_
          exact ⟨ret_now, b_now⟩
        ·rw [if_neg c145] at H
         have c145b0 : (t359 == 0) = false := beq_eq_false_iff_ne.mpr c145
         have c145b1 : (t359 != 0) = true := bne_iff_ne.mpr c145
         by_cases c173 : t360 = 0
         ·rw [if_pos c173] at H
          have c173b0 : (t360 == 0) = true := beq_iff_eq.mpr c173
          have c173b1 : (t360 != 0) = false := bne_eq_false_iff_eq.mpr c173
          clear c173
          by_cases c174 : a0_4 = 0
          ·rw [if_pos c174] at H
           have c174b0 : (a0_4 == 0) = true := beq_iff_eq.mpr c174
           have c174b1 : (a0_4 != 0) = false := bne_eq_false_iff_eq.mpr c174
           clear c174
           simp only [Option.some.injEq, Prod.mk.injEq] at H
           obtain ⟨rfl, rfl, rfl, rfl, rfl, rfl⟩ := H
           have hnb175 := NB363_349.out
           have hnc175 := NB349_363.out
           have hnb176 := NB363_350.out
           have hnc176 := NB350_363.out
           have hcz177 := blk_all11 BK363.out
           have hnb178 := NB349_350.out
           have hnc178 := NB350_349.out
           have hcz179 := blk_all5 BK349.out
           have hcz180 := blk_all5 BK350.out
           go_wp2
           refine bodyPost_ret (results_ct rfl _ _ gb350 69 #[.int .i64 t352, .int .i64 t353, .int .i64 t354, .bool t355, .bool t356] (0, 0) _ rfl bk_now Tryd.underlying69 rfl (by kernel_rfl)) rfl ?_
           exact ⟨ret_now, b_now⟩
          ·rw [if_neg c174] at H
           have c174b0 : (a0_4 == 0) = false := beq_eq_false_iff_ne.mpr c174
           have c174b1 : (a0_4 != 0) = true := bne_iff_ne.mpr c174
           simp only [Option.some.injEq, Prod.mk.injEq] at H
           obtain ⟨rfl, rfl, rfl, rfl, rfl, rfl⟩ := H
           have hnb181 := NB363_349.out
           have hnc181 := NB349_363.out
           have hnb182 := NB363_350.out
           have hnc182 := NB350_363.out
           have hcz183 := blk_all11 BK363.out
           have hnb184 := NB349_350.out
           have hnc184 := NB350_349.out
           have hcz185 := blk_all5 BK349.out
           have hcz186 := blk_all5 BK350.out
           go_wp2
           refine bodyPost_ret (results_ct rfl _ _ gb350 69 #[.int .i64 0, .int .i64 0, .int .i64 0, .bool false, .bool false] (0, 0) _ rfl bk_now Tryd.underlying69 rfl (by kernel_rfl)) rfl ?_
           exact ⟨ret_now, b_now⟩
         ·rw [if_neg c173] at H
          have c173b0 : (t360 == 0) = false := beq_eq_false_iff_ne.mpr c173
          have c173b1 : (t360 != 0) = true := bne_iff_ne.mpr c173
          simp only [Option.some.injEq, Prod.mk.injEq] at H
          obtain ⟨rfl, rfl, rfl, rfl, rfl, rfl⟩ := H
          have hnb187 := NB363_349.out
          have hnc187 := NB349_363.out
          have hnb188 := NB363_350.out
          have hnc188 := NB350_363.out
          have hcz189 := blk_all11 BK363.out
          have hnb190 := NB349_350.out
          have hnc190 := NB350_349.out
          have hcz191 := blk_all5 BK349.out
          have hcz192 := blk_all5 BK350.out
          go_wp2
          refine bodyPost_ret (results_ct rfl _ _ gb350 69 #[.int .i64 t352, .int .i64 t353, .int .i64 t354, .bool t355, .bool t356] (0, 0) _ rfl bk_now Tryd.underlying69 rfl (by kernel_rfl)) rfl ?_
          exact ⟨ret_now, b_now⟩
       ·rw [if_neg c144] at H
        have c144b0 : (a0_2 == 0) = false := beq_eq_false_iff_ne.mpr c144
        have c144b1 : (a0_2 != 0) = true := bne_iff_ne.mpr c144
        simp only [Option.some.injEq, Prod.mk.injEq] at H
        obtain ⟨rfl, rfl, rfl, rfl, rfl, rfl⟩ := H
        have hnb193 := NB363_349.out
        have hnc193 := NB349_363.out
        have hnb194 := NB363_350.out
        have hnc194 := NB350_363.out
        have hcz195 := blk_all11 BK363.out
        have hnb196 := NB349_350.out
        have hnc196 := NB350_349.out
        have hcz197 := blk_all5 BK349.out
        have hcz198 := blk_all5 BK350.out
        go_wp2
        refine bodyPost_ret (results_ct rfl _ _ gb350 69 #[.int .i64 0, .int .i64 0, .int .i64 0, .bool false, .bool false] (0, 0) _ rfl bk_now Tryd.underlying69 rfl (by kernel_rfl)) rfl ?_
        exact ⟨ret_now, b_now⟩
      ·rw [if_neg c143] at H
       have c143b0 : (t358 == 0) = false := beq_eq_false_iff_ne.mpr c143
       have c143b1 : (t358 != 0) = true := bne_iff_ne.mpr c143
       by_cases c199 : t359 = 0
       ·rw [if_pos c199] at H
        have c199b0 : (t359 == 0) = true := beq_iff_eq.mpr c199
        have c199b1 : (t359 != 0) = false := bne_eq_false_iff_eq.mpr c199
        clear c199
        by_cases c200 : a0_3 = 0
        ·rw [if_pos c200] at H
         have c200b0 : (a0_3 == 0) = true := beq_iff_eq.mpr c200
         have c200b1 : (a0_3 != 0) = false := bne_eq_false_iff_eq.mpr c200
         clear c200
         by_cases c201 : t360 = 0
         ·rw [if_pos c201] at H
          have c201b0 : (t360 == 0) = true := beq_iff_eq.mpr c201
          have c201b1 : (t360 != 0) = false := bne_eq_false_iff_eq.mpr c201
          clear c201
          by_cases c202 : a0_4 = 0
          ·rw [if_pos c202] at H
           have c202b0 : (a0_4 == 0) = true := beq_iff_eq.mpr c202
           have c202b1 : (a0_4 != 0) = false := bne_eq_false_iff_eq.mpr c202
           clear c202
           simp only [Option.some.injEq, Prod.mk.injEq] at H
           obtain ⟨rfl, rfl, rfl, rfl, rfl, rfl⟩ := H
           have hnb203 := NB363_349.out
           have hnc203 := NB349_363.out
           have hnb204 := NB363_350.out
           have hnc204 := NB350_363.out
           have hcz205 := blk_all11 BK363.out
           have hnb206 := NB349_350.out
           have hnc206 := NB350_349.out
           have hcz207 := blk_all5 BK349.out
           have hcz208 := blk_all5 BK350.out
           go_wp2
           refine bodyPost_ret (results_ct rfl _ _ gb350 69 #[.int .i64 t352, .int .i64 t353, .int .i64 t354, .bool t355, .bool t356] (0, 0) _ rfl bk_now Tryd.underlying69 rfl (by kernel_rfl)) rfl ?_
           exact ⟨ret_now, b_now⟩
          ·rw [if_neg c202] at H
           have c202b0 : (a0_4 == 0) = false := beq_eq_false_iff_ne.mpr c202
           have c202b1 : (a0_4 != 0) = true := bne_iff_ne.mpr c202
           simp only [Option.some.injEq, Prod.mk.injEq] at H
           obtain ⟨rfl, rfl, rfl, rfl, rfl, rfl⟩ := H
           have hnb209 := NB363_349.out
           have hnc209 := NB349_363.out
           have hnb210 := NB363_350.out
           have hnc210 := NB350_363.out
           have hcz211 := blk_all11 BK363.out
           have hnb212 := NB349_350.out
           have hnc212 := NB350_349.out
           have hcz213 := blk_all5 BK349.out
           have hcz214 := blk_all5 BK350.out
           go_wp2
           refine bodyPost_ret (results_ct rfl _ _ gb350 69 #[.int .i64 0, .int .i64 0, .int .i64 0, .bool false, .bool false] (0, 0) _ rfl bk_now Tryd.underlying69 rfl (by kernel_rfl)) rfl ?_
           exact ⟨ret_now, b_now⟩
         ·rw [if_neg c201] at H
          have c201b0 : (t360 == 0) = false := beq_eq_false_iff_ne.mpr c201
          have c201b1 : (t360 != 0) = true := bne_iff_ne.mpr c201
          simp only [Option.some.injEq, Prod.mk.injEq] at H
          obtain ⟨rfl, rfl, rfl, rfl, rfl, rfl⟩ := H
          have hnb215 := NB363_349.out
          have hnc215 := NB349_363.out
          have hnb216 := NB363_350.out
          have hnc216 := NB350_363.out
          have hcz217 := blk_all11 BK363.out
          have hnb218 := NB349_350.out
          have hnc218 := NB350_349.out
          have hcz219 := blk_all5 BK349.out
          have hcz220 := blk_all5 BK350.out
          go_wp2
          refine bodyPost_ret (results_ct rfl _ _ gb350 69 #[.int .i64 t352, .int .i64 t353, .int .i64 t354, .bool t355, .bool t356] (0, 0) _ rfl bk_now Tryd.underlying69 rfl (by kernel_rfl)) rfl ?_
          exact ⟨ret_now, b_now⟩
        ·rw [if_neg c200] at H
         have c200b0 : (a0_3 == 0) = false := beq_eq_false_iff_ne.mpr c200
         have c200b1 : (a0_3 != 0) = true := bne_iff_ne.mpr c200
         simp only [Option.some.injEq, Prod.mk.injEq] at H
         obtain ⟨rfl, rfl, rfl, rfl, rfl, rfl⟩ := H
         have hnb221 := NB363_349.out
         have hnc221 := NB349_363.out
         have hnb222 := NB363_350.out
         have hnc222 := NB350_363.out
         have hcz223 := blk_all11 BK363.out
         have hnb224 := NB349_350.out
         have hnc224 := NB350_349.out
         have hcz225 := blk_all5 BK349.out
         have hcz226 := blk_all5 BK350.out
         go_wp2
         refine bodyPost_ret (results_ct rfl _ _ gb350 69 #[.int .i64 0, .int .i64 0, .int .i64 0, .bool false, .bool false] (0, 0) _ rfl bk_now Tryd.underlying69 rfl (by kernel_rfl)) rfl ?_
         exact ⟨ret_now, b_now⟩
       ·rw [if_neg c199] at H
        have c199b0 : (t359 == 0) = false := beq_eq_false_iff_ne.mpr c199
        have c199b1 : (t359 != 0) = true := bne_iff_ne.mpr c199
        by_cases c227 : t360 = 0
        ·rw [if_pos c227] at H
         have c227b0 : (t360 == 0) = true := beq_iff_eq.mpr c227
         have c227b1 : (t360 != 0) = false := bne_eq_false_iff_eq.mpr c227
         clear c227
         by_cases c228 : a0_4 = 0
         ·rw [if_pos c228] at H
          have c228b0 : (a0_4 == 0) = true := beq_iff_eq.mpr c228
          have c228b1 : (a0_4 != 0) = false := bne_eq_false_iff_eq.mpr c228
          clear c228
          simp only [Option.some.injEq, Prod.mk.injEq] at H
          obtain ⟨rfl, rfl, rfl, rfl, rfl, rfl⟩ := H
          have hnb229 := NB363_349.out
          have hnc229 := NB349_363.out
          have hnb230 := NB363_350.out
          have hnc230 := NB350_363.out
          have hcz231 := blk_all11 BK363.out
          have hnb232 := NB349_350.out
          have hnc232 := NB350_349.out
          have hcz233 := blk_all5 BK349.out
          have hcz234 := blk_all5 BK350.out
          go_wp2
          refine bodyPost_ret (results_ct rfl _ _ gb350 69 #[.int .i64 t352, .int .i64 t353, .int .i64 t354, .bool t355, .bool t356] (0, 0) _ rfl bk_now Tryd.underlying69 rfl (by kernel_rfl)) rfl ?_
          exact ⟨ret_now, b_now⟩
         ·rw [if_neg c228] at H
          have c228b0 : (a0_4 == 0) = false := beq_eq_false_iff_ne.mpr c228
          have c228b1 : (a0_4 != 0) = true := bne_iff_ne.mpr c228
          simp only [Option.some.injEq, Prod.mk.injEq] at H
          obtain ⟨rfl, rfl, rfl, rfl, rfl, rfl⟩ := H
          have hnb235 := NB363_349.out
          have hnc235 := NB349_363.out
          have hnb236 := NB363_350.out
          have hnc236 := NB350_363.out
          have hcz237 := blk_all11 BK363.out
          have hnb238 := NB349_350.out
          have hnc238 := NB350_349.out
          have hcz239 := blk_all5 BK349.out
          have hcz240 := blk_all5 BK350.out
          go_wp2
          refine bodyPost_ret (results_ct rfl _ _ gb350 69 #[.int .i64 0, .int .i64 0, .int .i64 0, .bool false, .bool false] (0, 0) _ rfl bk_now Tryd.underlying69 rfl (by kernel_rfl)) rfl ?_
          exact ⟨ret_now, b_now⟩
        ·rw [if_neg c227] at H
         have c227b0 : (t360 == 0) = false := beq_eq_false_iff_ne.mpr c227
         have c227b1 : (t360 != 0) = true := bne_iff_ne.mpr c227
         simp only [Option.some.injEq, Prod.mk.injEq] at H
         obtain ⟨rfl, rfl, rfl, rfl, rfl, rfl⟩ := H
         have hnb241 := NB363_349.out
         have hnc241 := NB349_363.out
         have hnb242 := NB363_350.out
         have hnc242 := NB350_363.out
         have hcz243 := blk_all11 BK363.out
         have hnb244 := NB350_349.out
         have hnc244 := NB349_350.out
         have hcz245 := blk_all5 BK350.out
         go_wp2
         refine bodyPost_ret (results_ct rfl _ _ gb350 69 #[.int .i64 t352, .int .i64 t353, .int .i64 t354, .bool t355, .bool t356] (0, 0) _ rfl bk_now Tryd.underlying69 rfl (by kernel_rfl)) rfl ?_
         exact ⟨ret_now, b_now⟩
 ·replace c3 := Bool.eq_false_iff.mpr c3
  subst c3
  replace H := sh_f H
  simp only [Option.some.injEq, Prod.mk.injEq] at H
  obtain ⟨rfl, rfl, rfl, rfl, rfl, rfl⟩ := H
  go_enter Tryd.func38, Tryd.ntmps38
  go_wp2_with (first | ((with_reducible refine gate_dst (N := 1) rfl ?_); refine sh_box 1 #[.int .u8 a0_0, .int .u8 a0_1, .int .u8 a0_2, .int .i16 a0_3, .int .i32 a0_4] 44 ?_; intro gb349 hg w246 hbox hb; have GE349 := sh_z (w := w) hg; replace HB := sh_b (w := w) hb; have BK349 := Aside0.mk (hbox); clear hb hbox hg) | ((with_reducible refine gate_dst (N := 2) rfl ?_); refine sh_box 2 #[.int .i64 0, .int .i64 0, .int .i64 0, .bool false, .bool false] 69 ?_; intro gb350 hg w247 hbox hb; have GE350 := sh_z (w := w) hg; have NB349_350 := sh_n BK349 hg; have NB350_349 := sh_s NB349_350; replace BK349 := sh_k BK349 hb; replace HB := sh_b (w := w) hb; have BK350 := Aside0.mk (hbox); clear hb hbox hg; have hnb248 := NB349_350.out; have hnc248 := NB350_349.out; have hcz249 := blk_all5 BK349.out) | ((with_reducible refine gate_callee (f := 48) rfl ?_); refine sh_call (some 8) Tryd.func48 #[.agg #[.int .u8 a0_0, .int .u8 a0_1, .int .u8 a0_2, .int .i16 a0_3, .int .i32 a0_4]] ?_; (with_reducible refine (stockaderef02_Find.calls k a0_0 a0_1 a0_2 a0_3 a0_4 t351 t352 t353 t354 t355 t356 t357 t358 t359 t360 t361 false _ A2.out).mono ?_); rintro e w250 ⟨rfl, hb⟩; refine ⟨_, rfl, ?_⟩; replace BK349 := sh_k BK349 hb; replace BK350 := sh_k BK350 hb; replace HB := sh_b (w := w) hb; (try clear hb); (try clear hb2); (try clear hk); (try clear hi)) | ((with_reducible refine gate_dst (N := 4) rfl ?_); refine sh_box 4 #[.int .u8 0, .int .i64 0, .int .i64 0, .int .i64 0, .bool false, .bool false, .int .i64 0, .int .i64 0, .int .i64 0, .int .i64 0, .int .i64 0] 82 ?_; intro gb363 hg w251 hbox hb; have GE363 := sh_z (w := w) hg; have NB349_363 := sh_n BK349 hg; have NB350_363 := sh_n BK350 hg; have NB363_349 := sh_s NB349_363; have NB363_350 := sh_s NB350_363; replace BK349 := sh_k BK349 hb; replace BK350 := sh_k BK350 hb; replace HB := sh_b (w := w) hb; have BK363 := Aside0.mk (hbox); clear hb hbox hg; have hnb252 := NB363_349.out; have hnc252 := NB349_363.out; have hnb253 := NB363_350.out; have hnc253 := NB350_363.out; have hcz254 := blk_all11 BK363.out; have hcz255 := blk_all5 BK350.out))
  refine bodyPost_ret (results_ct rfl _ _ gb350 69 #[.int .i64 0, .int .i64 0, .int .i64 0, .bool false, .bool false] (0, 0) _ rfl bk_now Tryd.underlying69 rfl (by kernel_rfl)) rfl ?_
  exact ⟨ret_now, b_now⟩

end Go.Proofs.YtkjcjlegokdpdaaDoor.P
