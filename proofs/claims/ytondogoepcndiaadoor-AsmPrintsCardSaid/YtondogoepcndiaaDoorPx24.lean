/- Made by this session's driver over the kit's printer: for each Go function a Lean function with the same answers, and a proof that the Go call comes to these answers; no conditions but the ones each theorem names. -/
import Derived.Test.YtondogoepcndiaaDoorPx0
import Derived.Test.YtondogoepcndiaaDoorPx23
namespace Go.Proofs.YtondogoepcndiaaDoor.P
open Go.RowKit Go.Proofs.YtondogoepcndiaaDoorW.PrintWords Go.Proofs.YtondogoepcndiaaDoorW.PrintLast Go.Proofs.YtondogoepcndiaaDoorW.PrintMore
attribute [local go_sem] max2_int min2_int max_two min_two max_three min_three max_four min_four   -- for this text's walks alone
set_option linter.unusedVariables false
set_option linter.unusedSimpArgs false

/-! ### stockaderef02_Of: function 19 -/
def stockaderef02_Of.j0 : Nat → Bool → Int → Int → Int → Int → Int → Int → Int → Int → Int → Bool → Bool → Int → Int → Int → Int → Int → Option (Int × Int × Int × Bool × Bool × Int)
 | 0, _, _, _, _, _, _, _, _, _, _, _, _, _, _, _, _, _ => none
 | k + 1, x25, x451000, x451001, x451002, x451003, x451004, x465000, x465001, x465002, x465003, x465004, x465005, x465006, x465007, x465008, x465009, x465010 => if x25 = true then (some (0, 0, 0, false, false, 21)) else (if x465006 = 0 then (if x451001 = 0 then (if x465007 = 0 then (if x451002 = 0 then (if x465008 = 0 then (if x451003 = 0 then (if x465009 = 0 then (if x451004 = 0 then (some (x465001, x465002, x465003, x465004, x465005, 0)) else (some (0, 0, 0, false, false, 22))) else (some (x465001, x465002, x465003, x465004, x465005, 0))) else (some (0, 0, 0, false, false, 22))) else (if x465009 = 0 then (if x451004 = 0 then (some (x465001, x465002, x465003, x465004, x465005, 0)) else (some (0, 0, 0, false, false, 22))) else (some (x465001, x465002, x465003, x465004, x465005, 0)))) else (some (0, 0, 0, false, false, 22))) else (if x465008 = 0 then (if x451003 = 0 then (if x465009 = 0 then (if x451004 = 0 then (some (x465001, x465002, x465003, x465004, x465005, 0)) else (some (0, 0, 0, false, false, 22))) else (some (x465001, x465002, x465003, x465004, x465005, 0))) else (some (0, 0, 0, false, false, 22))) else (if x465009 = 0 then (if x451004 = 0 then (some (x465001, x465002, x465003, x465004, x465005, 0)) else (some (0, 0, 0, false, false, 22))) else (some (x465001, x465002, x465003, x465004, x465005, 0))))) else (some (0, 0, 0, false, false, 22))) else (if x465007 = 0 then (if x451002 = 0 then (if x465008 = 0 then (if x451003 = 0 then (if x465009 = 0 then (if x451004 = 0 then (some (x465001, x465002, x465003, x465004, x465005, 0)) else (some (0, 0, 0, false, false, 22))) else (some (x465001, x465002, x465003, x465004, x465005, 0))) else (some (0, 0, 0, false, false, 22))) else (if x465009 = 0 then (if x451004 = 0 then (some (x465001, x465002, x465003, x465004, x465005, 0)) else (some (0, 0, 0, false, false, 22))) else (some (x465001, x465002, x465003, x465004, x465005, 0)))) else (some (0, 0, 0, false, false, 22))) else (if x465008 = 0 then (if x451003 = 0 then (if x465009 = 0 then (if x451004 = 0 then (some (x465001, x465002, x465003, x465004, x465005, 0)) else (some (0, 0, 0, false, false, 22))) else (some (x465001, x465002, x465003, x465004, x465005, 0))) else (some (0, 0, 0, false, false, 22))) else (if x465009 = 0 then (if x451004 = 0 then (some (x465001, x465002, x465003, x465004, x465005, 0)) else (some (0, 0, 0, false, false, 22))) else (some (x465001, x465002, x465003, x465004, x465005, 0))))))
def stockaderef02_Of.f (k : Nat) (a0_0 : Int) (a0_1 : Int) (a0_2 : Int) (a0_3 : Int) (a0_4 : Int) : Option (Int × Int × Int × Bool × Bool × Int) := (stockaderef02_Find.f k a0_0 a0_1 a0_2 a0_3 a0_4).bind fun bt452 => (if bt452.2.2.2.2.2.2.2.2.2.2.2 = true then ((stockaderef02_wrong.f bt452.2.2.2.2.2.2.1 a0_1).bind fun t465 => (if t465 = true then (stockaderef02_Of.j0 k true a0_0 a0_1 a0_2 a0_3 a0_4 bt452.1 bt452.2.1 bt452.2.2.1 bt452.2.2.2.1 bt452.2.2.2.2.1 bt452.2.2.2.2.2.1 bt452.2.2.2.2.2.2.1 bt452.2.2.2.2.2.2.2.1 bt452.2.2.2.2.2.2.2.2.1 bt452.2.2.2.2.2.2.2.2.2.1 bt452.2.2.2.2.2.2.2.2.2.2.1) else ((stockaderef02_wrong.f bt452.2.2.2.2.2.2.2.1 a0_2).bind fun t466 => (stockaderef02_Of.j0 k t466 a0_0 a0_1 a0_2 a0_3 a0_4 bt452.1 bt452.2.1 bt452.2.2.1 bt452.2.2.2.1 bt452.2.2.2.2.1 bt452.2.2.2.2.2.1 bt452.2.2.2.2.2.2.1 bt452.2.2.2.2.2.2.2.1 bt452.2.2.2.2.2.2.2.2.1 bt452.2.2.2.2.2.2.2.2.2.1 bt452.2.2.2.2.2.2.2.2.2.2.1)))) else (some (0, 0, 0, false, false, 20)))
theorem stockaderef02_Of.mono_l : ∀ k, (∀ y0 y1 y2 y3 y4 y5 y6 y7 y8 y9 y10 y11 y12 y13 y14 y15 y16, LeO (stockaderef02_Of.j0 k y0 y1 y2 y3 y4 y5 y6 y7 y8 y9 y10 y11 y12 y13 y14 y15 y16) (stockaderef02_Of.j0 (k + 1) y0 y1 y2 y3 y4 y5 y6 y7 y8 y9 y10 y11 y12 y13 y14 y15 y16))
 | 0 => fun _ _ _ _ _ _ _ _ _ _ _ _ _ _ _ _ _ r h => by simp [stockaderef02_Of.j0] at h
 | k + 1 => by
  have ih0 := stockaderef02_Of.mono_l k
  ·intro y0 y1 y2 y3 y4 y5 y6 y7 y8 y9 y10 y11 y12 y13 y14 y15 y16
   unfold stockaderef02_Of.j0
   repeat' first
   | (with_reducible exact ih0 _ _ _ _ _ _ _ _ _ _ _ _ _ _ _ _ _)
   | (with_reducible exact stockaderef02_Find.mono _ _ _ _ _ _)
   | (with_reducible exact LeO.refl _)
   | (with_reducible exact LeO.none _)
   | (with_reducible refine LeO.ite ?_ ?_)
   | (with_reducible refine LeO.bind ?_ (fun _ => ?_))
   | refine LeO.ite ?_ ?_
   | refine LeO.bind ?_ (fun _ => ?_)
theorem stockaderef02_Of.mono : ∀ a0 a1 a2 a3 a4 k, LeO (stockaderef02_Of.f k a0 a1 a2 a3 a4) (stockaderef02_Of.f (k + 1) a0 a1 a2 a3 a4) := by
 intro a0 a1 a2 a3 a4 k
 have ih0 := stockaderef02_Of.mono_l k
 unfold stockaderef02_Of.f
 repeat' first
   | (with_reducible exact ih0 _ _ _ _ _ _ _ _ _ _ _ _ _ _ _ _ _)
   | (with_reducible exact stockaderef02_Find.mono _ _ _ _ _ _)
   | (with_reducible exact LeO.refl _)
   | (with_reducible exact LeO.none _)
   | (with_reducible refine LeO.ite ?_ ?_)
   | (with_reducible refine LeO.bind ?_ (fun _ => ?_))
   | refine LeO.ite ?_ ?_
   | refine LeO.bind ?_ (fun _ => ?_)
set_option maxHeartbeats 8000000 in
set_option maxRecDepth 100000 in
theorem stockaderef02_Of.calls (k : Nat) (a0_0 : Int) (a0_1 : Int) (a0_2 : Int) (a0_3 : Int) (a0_4 : Int) (r1 : Int) (r2 : Int) (r3 : Int) (r4 : Bool) (r5 : Bool) (r6 : Int) (w : World) (h : stockaderef02_Of.f k a0_0 a0_1 a0_2 a0_3 a0_4 = some (r1, r2, r3, r4, r5, r6)) :
  Calls Tryd.prog 19 #[.agg #[.int .u8 a0_0, .int .u8 a0_1, .int .u8 a0_2, .int .i16 a0_3, .int .i32 a0_4]] w fun e w' => e = .returned (.tuple #[.agg #[.int .i64 r1, .int .i64 r2, .int .i64 r3, .bool r4, .bool r5], .int .i64 r6]) ∧ Below w.heap.size w w' := by
 have hu37 := Tryd.underlying37
 have hu59 := Tryd.underlying59
 have hu84 := Tryd.underlying84
 have HB := Aside0.mk (Below.refl w.heap.size w)
 have H : ((stockaderef02_Find.f k a0_0 a0_1 a0_2 a0_3 a0_4).bind fun bt452 => (if bt452.2.2.2.2.2.2.2.2.2.2.2 = true then ((stockaderef02_wrong.f bt452.2.2.2.2.2.2.1 a0_1).bind fun t465 => (if t465 = true then (stockaderef02_Of.j0 k true a0_0 a0_1 a0_2 a0_3 a0_4 bt452.1 bt452.2.1 bt452.2.2.1 bt452.2.2.2.1 bt452.2.2.2.2.1 bt452.2.2.2.2.2.1 bt452.2.2.2.2.2.2.1 bt452.2.2.2.2.2.2.2.1 bt452.2.2.2.2.2.2.2.2.1 bt452.2.2.2.2.2.2.2.2.2.1 bt452.2.2.2.2.2.2.2.2.2.2.1) else ((stockaderef02_wrong.f bt452.2.2.2.2.2.2.2.1 a0_2).bind fun t466 => (stockaderef02_Of.j0 k t466 a0_0 a0_1 a0_2 a0_3 a0_4 bt452.1 bt452.2.1 bt452.2.2.1 bt452.2.2.2.1 bt452.2.2.2.2.1 bt452.2.2.2.2.2.1 bt452.2.2.2.2.2.2.1 bt452.2.2.2.2.2.2.2.1 bt452.2.2.2.2.2.2.2.2.1 bt452.2.2.2.2.2.2.2.2.2.1 bt452.2.2.2.2.2.2.2.2.2.2.1)))) else (some (0, 0, 0, false, false, 20)))) = some (r1, r2, r3, r4, r5, r6) := h
 clear h
 obtain ⟨⟨t452, t453, t454, t455, t456, t457, t458, t459, t460, t461, t462, t463⟩, A2, H⟩ := bs_ H; try dsimp only at H
 by_cases c3 : t463 = true
 ·subst c3
  replace H := sh_t H
  have HC4 := Aside0.mk H
  clear H
  go_enter Tryd.func19, Tryd.ntmps19
  go_upto_region 4 with (first | ((with_reducible refine gate_dst (N := 1) rfl ?_); refine sh_box 1 #[.int .u8 a0_0, .int .u8 a0_1, .int .u8 a0_2, .int .i16 a0_3, .int .i32 a0_4] 37 ?_; intro gb450 hg w5 hbox hb; have GE450 := sh_z (w := w) hg; replace HB := sh_b (w := w) hb; have BK450 := Aside0.mk (hbox); clear hb hbox hg) | ((with_reducible refine gate_dst (N := 2) rfl ?_); refine sh_box 2 #[.int .i64 0, .int .i64 0, .int .i64 0, .bool false, .bool false] 59 ?_; intro gb451 hg w6 hbox hb; have GE451 := sh_z (w := w) hg; have NB450_451 := sh_n BK450 hg; have NB451_450 := sh_s NB450_451; replace BK450 := sh_k BK450 hb; replace HB := sh_b (w := w) hb; have BK451 := Aside0.mk (hbox); clear hb hbox hg; obtain ⟨hnb7, hnc7⟩ := nb_ NB450_451; have hcz8 := blk_all5 BK450.out) | ((with_reducible refine gate_callee (f := 32) rfl ?_); refine sh_call (some 8) Tryd.func32 #[.agg #[.int .u8 a0_0, .int .u8 a0_1, .int .u8 a0_2, .int .i16 a0_3, .int .i32 a0_4]] ?_; (with_reducible refine (stockaderef02_Find.calls k a0_0 a0_1 a0_2 a0_3 a0_4 t452 t453 t454 t455 t456 t457 t458 t459 t460 t461 t462 true _ A2.out).mono ?_); rintro e w9 ⟨rfl, hb⟩; refine ⟨_, rfl, ?_⟩; replace BK450 := sh_k BK450 hb; replace BK451 := sh_k BK451 hb; replace HB := sh_b (w := w) hb; (try clear hb); (try clear hb2); (try clear hk); (try clear hi)) | ((with_reducible refine gate_dst (N := 4) rfl ?_); refine sh_box 4 #[.int .u8 0, .int .i64 0, .int .i64 0, .int .i64 0, .bool false, .bool false, .int .i64 0, .int .i64 0, .int .i64 0, .int .i64 0, .int .i64 0] 84 ?_; intro gb464 hg w10 hbox hb; have GE464 := sh_z (w := w) hg; have NB450_464 := sh_n BK450 hg; have NB451_464 := sh_n BK451 hg; have NB464_450 := sh_s NB450_464; have NB464_451 := sh_s NB451_464; replace BK450 := sh_k BK450 hb; replace BK451 := sh_k BK451 hb; replace HB := sh_b (w := w) hb; have BK464 := Aside0.mk (hbox); clear hb hbox hg; obtain ⟨hnb11, hnc11⟩ := nb_ NB464_450; obtain ⟨hnb12, hnc12⟩ := nb_ NB464_451; have hcz13 := blk_all11 BK464.out))
  (try simp only [Act.put, List.setIfInBounds_toArray, List.set_cons_zero, List.set_cons_succ])
  go_cut [25] (fun v25 wc => ∃ (kq : Nat) (x25_3 : Bool), v25 = .bool x25_3 ∧ Aside0 (stockaderef02_Of.j0 kq x25_3 a0_0 a0_1 a0_2 a0_3 a0_4 t452 t453 t454 t455 t456 t457 t458 t459 t460 t461 t462 = some (r1, r2, r3, r4, r5, r6)) ∧ Aside0 (kq ≤ k) ∧ Aside0 (wc.heap[gb450]? = some (.cells #[.int .u8 a0_0, .int .u8 a0_1, .int .u8 a0_2, .int .i16 a0_3, .int .i32 a0_4] 37 (0, 0))) ∧ Aside0 (wc.heap[gb451]? = some (.cells #[.int .i64 0, .int .i64 0, .int .i64 0, .bool false, .bool false] 59 (0, 0))) ∧ Aside0 (wc.heap[gb464]? = some (.cells #[.int .u8 t452, .int .i64 t453, .int .i64 t454, .int .i64 t455, .bool t456, .bool t457, .int .i64 t458, .int .i64 t459, .int .i64 t460, .int .i64 t461, .int .i64 t462] 84 (0, 0))) ∧ Aside0 (Below w.heap.size w wc))
  case first =>
   have H := HC4.out
   clear HC4
   obtain ⟨t465, A14, H⟩ := bs_ H; try dsimp only at H
   by_cases c15 : t465 = true
   ·subst c15
    replace H := sh_t H
    have H' := Aside0.mk H
    clear H
    obtain ⟨hnb16, hnc16⟩ := nb_ NB464_450
    obtain ⟨hnb17, hnc17⟩ := nb_ NB464_451
    have hcz18 := blk_all11 BK464.out
    obtain ⟨hnb19, hnc19⟩ := nb_ NB450_451
    have hcz20 := blk_all5 BK450.out
    go_wp2_with (first | ((with_reducible refine gate_callee (f := 33) rfl ?_); refine sh_call (some 18) Tryd.func33 #[.int .i64 t458, .int .u8 a0_1] ?_; (with_reducible refine (stockaderef02_wrong.calls t458 a0_1 true _ A14.out).mono ?_); rintro e w' ⟨rfl, ⟨nd, rfl⟩⟩; refine ⟨_, rfl, ?_⟩))
    go_meet
    case rel => exact ⟨_, (true), eq_now, H', ⟨by first | omega | exact Nat.le_refl _⟩, ⟨bk_now⟩, ⟨bk_now⟩, ⟨bk_now⟩, ⟨b_now⟩⟩
   ·replace c15 := Bool.eq_false_iff.mpr c15
    subst c15
    replace H := sh_f H
    obtain ⟨t466, A21, H⟩ := bs_ H; try dsimp only at H
    have H' := Aside0.mk H
    clear H
    obtain ⟨hnb22, hnc22⟩ := nb_ NB464_450
    obtain ⟨hnb23, hnc23⟩ := nb_ NB464_451
    have hcz24 := blk_all11 BK464.out
    obtain ⟨hnb25, hnc25⟩ := nb_ NB450_451
    have hcz26 := blk_all5 BK450.out
    go_wp2_with (first | ((with_reducible refine gate_callee (f := 33) rfl ?_); refine sh_call (some 18) Tryd.func33 #[.int .i64 t458, .int .u8 a0_1] ?_; (with_reducible refine (stockaderef02_wrong.calls t458 a0_1 false _ A14.out).mono ?_); rintro e w' ⟨rfl, ⟨nd, rfl⟩⟩; refine ⟨_, rfl, ?_⟩) | (go_at_call 33; (with_reducible refine (stockaderef02_wrong.calls t459 a0_2 t466 _ A21.out).mono ?_); rintro e w' ⟨rfl, ⟨nd, rfl⟩⟩))
    go_meet
    case rel => exact ⟨_, (t466), eq_now, H', ⟨by first | omega | exact Nat.le_refl _⟩, ⟨bk_now⟩, ⟨bk_now⟩, ⟨bk_now⟩, ⟨b_now⟩⟩
  case rest =>
   clear HC4
   try clear c1
   try clear c2
   try clear p2
   try clear c3
   try clear c7
   try clear c11
   try clear c12
   try clear c15
   try clear c16
   try clear c17
   try clear c19
   try clear c22
   try clear c23
   try clear c25
   try clear hcz13
   try clear hcz18
   try clear hcz20
   try clear hcz24
   try clear hcz26
   try clear hcz8
   obtain ⟨kq, x25_3, rfl, HA, HJ3, BK450, BK451, BK464, HB⟩ := hcut
   cases kq with
   | zero => exact absurd HA.out (by simp [stockaderef02_Of.j0])
   | succ kj3 =>
    have H := HA.out
    clear HA
    simp only [stockaderef02_Of.j0] at H
    by_cases c27 : x25_3 = true
    ·subst c27
     replace H := sh_t H
     obtain ⟨rfl, rfl, rfl, rfl, rfl, rfl⟩ := pi6 H
     obtain ⟨hnb28, hnc28⟩ := nb_ NB451_450
     obtain ⟨hnb29, hnc29⟩ := nb_ NB451_464
     have hcz30 := blk_all5 BK451.out
     go_wp2
     refine bodyPost_ret (results_ct rfl _ _ gb451 59 #[.int .i64 0, .int .i64 0, .int .i64 0, .bool false, .bool false] (0, 0) _ rfl bk_now Tryd.underlying59 rfl (by kernel_rfl)) rfl ?_
     exact ⟨ret_now, b_now⟩
    ·replace c27 := Bool.eq_false_iff.mpr c27
     subst c27
     replace H := sh_f H
     by_cases c31 : t458 = 0
     ·rw [if_pos c31] at H
      obtain ⟨c31b0, c31b1⟩ := eqT c31
      clear c31
      by_cases c32 : a0_1 = 0
      ·rw [if_pos c32] at H
       obtain ⟨c32b0, c32b1⟩ := eqT c32
       clear c32
       by_cases c33 : t459 = 0
       ·rw [if_pos c33] at H
        obtain ⟨c33b0, c33b1⟩ := eqT c33
        clear c33
        by_cases c34 : a0_2 = 0
        ·rw [if_pos c34] at H
         obtain ⟨c34b0, c34b1⟩ := eqT c34
         clear c34
         by_cases c35 : t460 = 0
         ·rw [if_pos c35] at H
          obtain ⟨c35b0, c35b1⟩ := eqT c35
          clear c35
          by_cases c36 : a0_3 = 0
          ·rw [if_pos c36] at H
           obtain ⟨c36b0, c36b1⟩ := eqT c36
           clear c36
           by_cases c37 : t461 = 0
           ·rw [if_pos c37] at H
            obtain ⟨c37b0, c37b1⟩ := eqT c37
            clear c37
            by_cases c38 : a0_4 = 0
            ·rw [if_pos c38] at H
             obtain ⟨c38b0, c38b1⟩ := eqT c38
             clear c38
             obtain ⟨rfl, rfl, rfl, rfl, rfl, rfl⟩ := pi6 H
             obtain ⟨hnb39, hnc39⟩ := nb_ NB464_450
             obtain ⟨hnb40, hnc40⟩ := nb_ NB464_451
             have hcz41 := blk_all11 BK464.out
             obtain ⟨hnb42, hnc42⟩ := nb_ NB450_451
             have hcz43 := blk_all5 BK450.out
             have hcz44 := blk_all5 BK451.out
             go_wp2
             refine bodyPost_ret (results_ct rfl _ _ gb451 59 #[.int .i64 t453, .int .i64 t454, .int .i64 t455, .bool t456, .bool t457] (0, 0) _ rfl bk_now Tryd.underlying59 rfl (by kernel_rfl)) rfl ?_
             exact ⟨ret_now, b_now⟩
            ·rw [if_neg c38] at H
             obtain ⟨c38b0, c38b1⟩ := eqF c38
             obtain ⟨rfl, rfl, rfl, rfl, rfl, rfl⟩ := pi6 H
             obtain ⟨hnb45, hnc45⟩ := nb_ NB464_450
             obtain ⟨hnb46, hnc46⟩ := nb_ NB464_451
             have hcz47 := blk_all11 BK464.out
             obtain ⟨hnb48, hnc48⟩ := nb_ NB450_451
             have hcz49 := blk_all5 BK450.out
             have hcz50 := blk_all5 BK451.out
             go_wp2
             refine bodyPost_ret (results_ct rfl _ _ gb451 59 #[.int .i64 0, .int .i64 0, .int .i64 0, .bool false, .bool false] (0, 0) _ rfl bk_now Tryd.underlying59 rfl (by kernel_rfl)) rfl ?_
             exact ⟨ret_now, b_now⟩
           ·rw [if_neg c37] at H
            obtain ⟨c37b0, c37b1⟩ := eqF c37
            obtain ⟨rfl, rfl, rfl, rfl, rfl, rfl⟩ := pi6 H
            obtain ⟨hnb51, hnc51⟩ := nb_ NB464_450
            obtain ⟨hnb52, hnc52⟩ := nb_ NB464_451
            have hcz53 := blk_all11 BK464.out
            obtain ⟨hnb54, hnc54⟩ := nb_ NB450_451
            have hcz55 := blk_all5 BK450.out
            have hcz56 := blk_all5 BK451.out
            go_wp2
            refine bodyPost_ret (results_ct rfl _ _ gb451 59 #[.int .i64 t453, .int .i64 t454, .int .i64 t455, .bool t456, .bool t457] (0, 0) _ rfl bk_now Tryd.underlying59 rfl (by kernel_rfl)) rfl ?_
            exact ⟨ret_now, b_now⟩
          ·rw [if_neg c36] at H
           obtain ⟨c36b0, c36b1⟩ := eqF c36
           obtain ⟨rfl, rfl, rfl, rfl, rfl, rfl⟩ := pi6 H
           obtain ⟨hnb57, hnc57⟩ := nb_ NB464_450
           obtain ⟨hnb58, hnc58⟩ := nb_ NB464_451
           have hcz59 := blk_all11 BK464.out
           obtain ⟨hnb60, hnc60⟩ := nb_ NB450_451
           have hcz61 := blk_all5 BK450.out
           have hcz62 := blk_all5 BK451.out
           go_wp2
           refine bodyPost_ret (results_ct rfl _ _ gb451 59 #[.int .i64 0, .int .i64 0, .int .i64 0, .bool false, .bool false] (0, 0) _ rfl bk_now Tryd.underlying59 rfl (by kernel_rfl)) rfl ?_
           exact ⟨ret_now, b_now⟩
         ·rw [if_neg c35] at H
          obtain ⟨c35b0, c35b1⟩ := eqF c35
          by_cases c63 : t461 = 0
          ·rw [if_pos c63] at H
           obtain ⟨c63b0, c63b1⟩ := eqT c63
           clear c63
           by_cases c64 : a0_4 = 0
           ·rw [if_pos c64] at H
            obtain ⟨c64b0, c64b1⟩ := eqT c64
            clear c64
            obtain ⟨rfl, rfl, rfl, rfl, rfl, rfl⟩ := pi6 H
            obtain ⟨hnb65, hnc65⟩ := nb_ NB464_450
            obtain ⟨hnb66, hnc66⟩ := nb_ NB464_451
            have hcz67 := blk_all11 BK464.out
            obtain ⟨hnb68, hnc68⟩ := nb_ NB450_451
            have hcz69 := blk_all5 BK450.out
            have hcz70 := blk_all5 BK451.out
            go_wp2
            refine bodyPost_ret (results_ct rfl _ _ gb451 59 #[.int .i64 t453, .int .i64 t454, .int .i64 t455, .bool t456, .bool t457] (0, 0) _ rfl bk_now Tryd.underlying59 rfl (by kernel_rfl)) rfl ?_
            exact ⟨ret_now, b_now⟩
           ·rw [if_neg c64] at H
            obtain ⟨c64b0, c64b1⟩ := eqF c64
            obtain ⟨rfl, rfl, rfl, rfl, rfl, rfl⟩ := pi6 H
            obtain ⟨hnb71, hnc71⟩ := nb_ NB464_450
            obtain ⟨hnb72, hnc72⟩ := nb_ NB464_451
            have hcz73 := blk_all11 BK464.out
            obtain ⟨hnb74, hnc74⟩ := nb_ NB450_451
            have hcz75 := blk_all5 BK450.out
            have hcz76 := blk_all5 BK451.out
            go_wp2
            refine bodyPost_ret (results_ct rfl _ _ gb451 59 #[.int .i64 0, .int .i64 0, .int .i64 0, .bool false, .bool false] (0, 0) _ rfl bk_now Tryd.underlying59 rfl (by kernel_rfl)) rfl ?_
            exact ⟨ret_now, b_now⟩
          ·rw [if_neg c63] at H
           obtain ⟨c63b0, c63b1⟩ := eqF c63
           obtain ⟨rfl, rfl, rfl, rfl, rfl, rfl⟩ := pi6 H
           obtain ⟨hnb77, hnc77⟩ := nb_ NB464_450
           obtain ⟨hnb78, hnc78⟩ := nb_ NB464_451
           have hcz79 := blk_all11 BK464.out
           obtain ⟨hnb80, hnc80⟩ := nb_ NB450_451
           have hcz81 := blk_all5 BK450.out
           have hcz82 := blk_all5 BK451.out
           go_wp2
           refine bodyPost_ret (results_ct rfl _ _ gb451 59 #[.int .i64 t453, .int .i64 t454, .int .i64 t455, .bool t456, .bool t457] (0, 0) _ rfl bk_now Tryd.underlying59 rfl (by kernel_rfl)) rfl ?_
           exact ⟨ret_now, b_now⟩
        ·rw [if_neg c34] at H
         obtain ⟨c34b0, c34b1⟩ := eqF c34
         obtain ⟨rfl, rfl, rfl, rfl, rfl, rfl⟩ := pi6 H
         obtain ⟨hnb83, hnc83⟩ := nb_ NB464_450
         obtain ⟨hnb84, hnc84⟩ := nb_ NB464_451
         have hcz85 := blk_all11 BK464.out
         obtain ⟨hnb86, hnc86⟩ := nb_ NB450_451
         have hcz87 := blk_all5 BK450.out
         have hcz88 := blk_all5 BK451.out
         go_wp2
         refine bodyPost_ret (results_ct rfl _ _ gb451 59 #[.int .i64 0, .int .i64 0, .int .i64 0, .bool false, .bool false] (0, 0) _ rfl bk_now Tryd.underlying59 rfl (by kernel_rfl)) rfl ?_
         exact ⟨ret_now, b_now⟩
       ·rw [if_neg c33] at H
        obtain ⟨c33b0, c33b1⟩ := eqF c33
        by_cases c89 : t460 = 0
        ·rw [if_pos c89] at H
         obtain ⟨c89b0, c89b1⟩ := eqT c89
         clear c89
         by_cases c90 : a0_3 = 0
         ·rw [if_pos c90] at H
          obtain ⟨c90b0, c90b1⟩ := eqT c90
          clear c90
          by_cases c91 : t461 = 0
          ·rw [if_pos c91] at H
           obtain ⟨c91b0, c91b1⟩ := eqT c91
           clear c91
           by_cases c92 : a0_4 = 0
           ·rw [if_pos c92] at H
            obtain ⟨c92b0, c92b1⟩ := eqT c92
            clear c92
            obtain ⟨rfl, rfl, rfl, rfl, rfl, rfl⟩ := pi6 H
            obtain ⟨hnb93, hnc93⟩ := nb_ NB464_450
            obtain ⟨hnb94, hnc94⟩ := nb_ NB464_451
            have hcz95 := blk_all11 BK464.out
            obtain ⟨hnb96, hnc96⟩ := nb_ NB450_451
            have hcz97 := blk_all5 BK450.out
            have hcz98 := blk_all5 BK451.out
            go_wp2
            refine bodyPost_ret (results_ct rfl _ _ gb451 59 #[.int .i64 t453, .int .i64 t454, .int .i64 t455, .bool t456, .bool t457] (0, 0) _ rfl bk_now Tryd.underlying59 rfl (by kernel_rfl)) rfl ?_
            exact ⟨ret_now, b_now⟩
           ·rw [if_neg c92] at H
            obtain ⟨c92b0, c92b1⟩ := eqF c92
            obtain ⟨rfl, rfl, rfl, rfl, rfl, rfl⟩ := pi6 H
            obtain ⟨hnb99, hnc99⟩ := nb_ NB464_450
            obtain ⟨hnb100, hnc100⟩ := nb_ NB464_451
            have hcz101 := blk_all11 BK464.out
            obtain ⟨hnb102, hnc102⟩ := nb_ NB450_451
            have hcz103 := blk_all5 BK450.out
            have hcz104 := blk_all5 BK451.out
            go_wp2
            refine bodyPost_ret (results_ct rfl _ _ gb451 59 #[.int .i64 0, .int .i64 0, .int .i64 0, .bool false, .bool false] (0, 0) _ rfl bk_now Tryd.underlying59 rfl (by kernel_rfl)) rfl ?_
            exact ⟨ret_now, b_now⟩
          ·rw [if_neg c91] at H
           obtain ⟨c91b0, c91b1⟩ := eqF c91
           obtain ⟨rfl, rfl, rfl, rfl, rfl, rfl⟩ := pi6 H
           obtain ⟨hnb105, hnc105⟩ := nb_ NB464_450
           obtain ⟨hnb106, hnc106⟩ := nb_ NB464_451
           have hcz107 := blk_all11 BK464.out
           obtain ⟨hnb108, hnc108⟩ := nb_ NB450_451
           have hcz109 := blk_all5 BK450.out
           have hcz110 := blk_all5 BK451.out
           go_wp2
           refine bodyPost_ret (results_ct rfl _ _ gb451 59 #[.int .i64 t453, .int .i64 t454, .int .i64 t455, .bool t456, .bool t457] (0, 0) _ rfl bk_now Tryd.underlying59 rfl (by kernel_rfl)) rfl ?_
           exact ⟨ret_now, b_now⟩
         ·rw [if_neg c90] at H
          obtain ⟨c90b0, c90b1⟩ := eqF c90
          obtain ⟨rfl, rfl, rfl, rfl, rfl, rfl⟩ := pi6 H
          obtain ⟨hnb111, hnc111⟩ := nb_ NB464_450
          obtain ⟨hnb112, hnc112⟩ := nb_ NB464_451
          have hcz113 := blk_all11 BK464.out
          obtain ⟨hnb114, hnc114⟩ := nb_ NB450_451
          have hcz115 := blk_all5 BK450.out
          have hcz116 := blk_all5 BK451.out
          go_wp2
          refine bodyPost_ret (results_ct rfl _ _ gb451 59 #[.int .i64 0, .int .i64 0, .int .i64 0, .bool false, .bool false] (0, 0) _ rfl bk_now Tryd.underlying59 rfl (by kernel_rfl)) rfl ?_
          exact ⟨ret_now, b_now⟩
        ·rw [if_neg c89] at H
         obtain ⟨c89b0, c89b1⟩ := eqF c89
         by_cases c117 : t461 = 0
         ·rw [if_pos c117] at H
          obtain ⟨c117b0, c117b1⟩ := eqT c117
          clear c117
          by_cases c118 : a0_4 = 0
          ·rw [if_pos c118] at H
           obtain ⟨c118b0, c118b1⟩ := eqT c118
           clear c118
           obtain ⟨rfl, rfl, rfl, rfl, rfl, rfl⟩ := pi6 H
           obtain ⟨hnb119, hnc119⟩ := nb_ NB464_450
           obtain ⟨hnb120, hnc120⟩ := nb_ NB464_451
           have hcz121 := blk_all11 BK464.out
           obtain ⟨hnb122, hnc122⟩ := nb_ NB450_451
           have hcz123 := blk_all5 BK450.out
           have hcz124 := blk_all5 BK451.out
           go_wp2
           refine bodyPost_ret (results_ct rfl _ _ gb451 59 #[.int .i64 t453, .int .i64 t454, .int .i64 t455, .bool t456, .bool t457] (0, 0) _ rfl bk_now Tryd.underlying59 rfl (by kernel_rfl)) rfl ?_
           exact ⟨ret_now, b_now⟩
          ·rw [if_neg c118] at H
           obtain ⟨c118b0, c118b1⟩ := eqF c118
           obtain ⟨rfl, rfl, rfl, rfl, rfl, rfl⟩ := pi6 H
           obtain ⟨hnb125, hnc125⟩ := nb_ NB464_450
           obtain ⟨hnb126, hnc126⟩ := nb_ NB464_451
           have hcz127 := blk_all11 BK464.out
           obtain ⟨hnb128, hnc128⟩ := nb_ NB450_451
           have hcz129 := blk_all5 BK450.out
           have hcz130 := blk_all5 BK451.out
           go_wp2
           refine bodyPost_ret (results_ct rfl _ _ gb451 59 #[.int .i64 0, .int .i64 0, .int .i64 0, .bool false, .bool false] (0, 0) _ rfl bk_now Tryd.underlying59 rfl (by kernel_rfl)) rfl ?_
           exact ⟨ret_now, b_now⟩
         ·rw [if_neg c117] at H
          obtain ⟨c117b0, c117b1⟩ := eqF c117
          obtain ⟨rfl, rfl, rfl, rfl, rfl, rfl⟩ := pi6 H
          obtain ⟨hnb131, hnc131⟩ := nb_ NB464_450
          obtain ⟨hnb132, hnc132⟩ := nb_ NB464_451
          have hcz133 := blk_all11 BK464.out
          obtain ⟨hnb134, hnc134⟩ := nb_ NB450_451
          have hcz135 := blk_all5 BK450.out
          have hcz136 := blk_all5 BK451.out
          go_wp2
          refine bodyPost_ret (results_ct rfl _ _ gb451 59 #[.int .i64 t453, .int .i64 t454, .int .i64 t455, .bool t456, .bool t457] (0, 0) _ rfl bk_now Tryd.underlying59 rfl (by kernel_rfl)) rfl ?_
          exact ⟨ret_now, b_now⟩
      ·rw [if_neg c32] at H
       obtain ⟨c32b0, c32b1⟩ := eqF c32
       obtain ⟨rfl, rfl, rfl, rfl, rfl, rfl⟩ := pi6 H
       obtain ⟨hnb137, hnc137⟩ := nb_ NB464_450
       obtain ⟨hnb138, hnc138⟩ := nb_ NB464_451
       have hcz139 := blk_all11 BK464.out
       obtain ⟨hnb140, hnc140⟩ := nb_ NB450_451
       have hcz141 := blk_all5 BK450.out
       have hcz142 := blk_all5 BK451.out
       go_wp2
       refine bodyPost_ret (results_ct rfl _ _ gb451 59 #[.int .i64 0, .int .i64 0, .int .i64 0, .bool false, .bool false] (0, 0) _ rfl bk_now Tryd.underlying59 rfl (by kernel_rfl)) rfl ?_
       exact ⟨ret_now, b_now⟩
     ·rw [if_neg c31] at H
      obtain ⟨c31b0, c31b1⟩ := eqF c31
      by_cases c143 : t459 = 0
      ·rw [if_pos c143] at H
       obtain ⟨c143b0, c143b1⟩ := eqT c143
       clear c143
       by_cases c144 : a0_2 = 0
       ·rw [if_pos c144] at H
        obtain ⟨c144b0, c144b1⟩ := eqT c144
        clear c144
        by_cases c145 : t460 = 0
        ·rw [if_pos c145] at H
         obtain ⟨c145b0, c145b1⟩ := eqT c145
         clear c145
         by_cases c146 : a0_3 = 0
         ·rw [if_pos c146] at H
          obtain ⟨c146b0, c146b1⟩ := eqT c146
          clear c146
          by_cases c147 : t461 = 0
          ·rw [if_pos c147] at H
           obtain ⟨c147b0, c147b1⟩ := eqT c147
           clear c147
           by_cases c148 : a0_4 = 0
           ·rw [if_pos c148] at H
            obtain ⟨c148b0, c148b1⟩ := eqT c148
            clear c148
            obtain ⟨rfl, rfl, rfl, rfl, rfl, rfl⟩ := pi6 H
            obtain ⟨hnb149, hnc149⟩ := nb_ NB464_450
            obtain ⟨hnb150, hnc150⟩ := nb_ NB464_451
            have hcz151 := blk_all11 BK464.out
            obtain ⟨hnb152, hnc152⟩ := nb_ NB450_451
            have hcz153 := blk_all5 BK450.out
            have hcz154 := blk_all5 BK451.out
            go_wp2
            refine bodyPost_ret (results_ct rfl _ _ gb451 59 #[.int .i64 t453, .int .i64 t454, .int .i64 t455, .bool t456, .bool t457] (0, 0) _ rfl bk_now Tryd.underlying59 rfl (by kernel_rfl)) rfl ?_
            exact ⟨ret_now, b_now⟩
           ·rw [if_neg c148] at H
            obtain ⟨c148b0, c148b1⟩ := eqF c148
            obtain ⟨rfl, rfl, rfl, rfl, rfl, rfl⟩ := pi6 H
            obtain ⟨hnb155, hnc155⟩ := nb_ NB464_450
            obtain ⟨hnb156, hnc156⟩ := nb_ NB464_451
            have hcz157 := blk_all11 BK464.out
            obtain ⟨hnb158, hnc158⟩ := nb_ NB450_451
            have hcz159 := blk_all5 BK450.out
            have hcz160 := blk_all5 BK451.out
            go_wp2
            refine bodyPost_ret (results_ct rfl _ _ gb451 59 #[.int .i64 0, .int .i64 0, .int .i64 0, .bool false, .bool false] (0, 0) _ rfl bk_now Tryd.underlying59 rfl (by kernel_rfl)) rfl ?_
            exact ⟨ret_now, b_now⟩
          ·rw [if_neg c147] at H
           obtain ⟨c147b0, c147b1⟩ := eqF c147
           obtain ⟨rfl, rfl, rfl, rfl, rfl, rfl⟩ := pi6 H
           obtain ⟨hnb161, hnc161⟩ := nb_ NB464_450
           obtain ⟨hnb162, hnc162⟩ := nb_ NB464_451
           have hcz163 := blk_all11 BK464.out
           obtain ⟨hnb164, hnc164⟩ := nb_ NB450_451
           have hcz165 := blk_all5 BK450.out
           have hcz166 := blk_all5 BK451.out
           go_wp2
           refine bodyPost_ret (results_ct rfl _ _ gb451 59 #[.int .i64 t453, .int .i64 t454, .int .i64 t455, .bool t456, .bool t457] (0, 0) _ rfl bk_now Tryd.underlying59 rfl (by kernel_rfl)) rfl ?_
           exact ⟨ret_now, b_now⟩
         ·rw [if_neg c146] at H
          obtain ⟨c146b0, c146b1⟩ := eqF c146
          obtain ⟨rfl, rfl, rfl, rfl, rfl, rfl⟩ := pi6 H
          obtain ⟨hnb167, hnc167⟩ := nb_ NB464_450
          obtain ⟨hnb168, hnc168⟩ := nb_ NB464_451
          have hcz169 := blk_all11 BK464.out
          obtain ⟨hnb170, hnc170⟩ := nb_ NB450_451
          have hcz171 := blk_all5 BK450.out
          have hcz172 := blk_all5 BK451.out
          go_wp2
          refine bodyPost_ret (results_ct rfl _ _ gb451 59 #[.int .i64 0, .int .i64 0, .int .i64 0, .bool false, .bool false] (0, 0) _ rfl bk_now Tryd.underlying59 rfl (by kernel_rfl)) rfl ?_
          exact ⟨ret_now, b_now⟩
        ·rw [if_neg c145] at H
         obtain ⟨c145b0, c145b1⟩ := eqF c145
         by_cases c173 : t461 = 0
         ·rw [if_pos c173] at H
          obtain ⟨c173b0, c173b1⟩ := eqT c173
          clear c173
          by_cases c174 : a0_4 = 0
          ·rw [if_pos c174] at H
           obtain ⟨c174b0, c174b1⟩ := eqT c174
           clear c174
           obtain ⟨rfl, rfl, rfl, rfl, rfl, rfl⟩ := pi6 H
           obtain ⟨hnb175, hnc175⟩ := nb_ NB464_450
           obtain ⟨hnb176, hnc176⟩ := nb_ NB464_451
           have hcz177 := blk_all11 BK464.out
           obtain ⟨hnb178, hnc178⟩ := nb_ NB450_451
           have hcz179 := blk_all5 BK450.out
           have hcz180 := blk_all5 BK451.out
           go_wp2
           refine bodyPost_ret (results_ct rfl _ _ gb451 59 #[.int .i64 t453, .int .i64 t454, .int .i64 t455, .bool t456, .bool t457] (0, 0) _ rfl bk_now Tryd.underlying59 rfl (by kernel_rfl)) rfl ?_
           exact ⟨ret_now, b_now⟩
          ·rw [if_neg c174] at H
           obtain ⟨c174b0, c174b1⟩ := eqF c174
           obtain ⟨rfl, rfl, rfl, rfl, rfl, rfl⟩ := pi6 H
           obtain ⟨hnb181, hnc181⟩ := nb_ NB464_450
           obtain ⟨hnb182, hnc182⟩ := nb_ NB464_451
           have hcz183 := blk_all11 BK464.out
           obtain ⟨hnb184, hnc184⟩ := nb_ NB450_451
           have hcz185 := blk_all5 BK450.out
           have hcz186 := blk_all5 BK451.out
           go_wp2
           refine bodyPost_ret (results_ct rfl _ _ gb451 59 #[.int .i64 0, .int .i64 0, .int .i64 0, .bool false, .bool false] (0, 0) _ rfl bk_now Tryd.underlying59 rfl (by kernel_rfl)) rfl ?_
           exact ⟨ret_now, b_now⟩
         ·rw [if_neg c173] at H
          obtain ⟨c173b0, c173b1⟩ := eqF c173
          obtain ⟨rfl, rfl, rfl, rfl, rfl, rfl⟩ := pi6 H
          obtain ⟨hnb187, hnc187⟩ := nb_ NB464_450
          obtain ⟨hnb188, hnc188⟩ := nb_ NB464_451
          have hcz189 := blk_all11 BK464.out
          obtain ⟨hnb190, hnc190⟩ := nb_ NB450_451
          have hcz191 := blk_all5 BK450.out
          have hcz192 := blk_all5 BK451.out
          go_wp2
          refine bodyPost_ret (results_ct rfl _ _ gb451 59 #[.int .i64 t453, .int .i64 t454, .int .i64 t455, .bool t456, .bool t457] (0, 0) _ rfl bk_now Tryd.underlying59 rfl (by kernel_rfl)) rfl ?_
          exact ⟨ret_now, b_now⟩
       ·rw [if_neg c144] at H
        obtain ⟨c144b0, c144b1⟩ := eqF c144
        obtain ⟨rfl, rfl, rfl, rfl, rfl, rfl⟩ := pi6 H
        obtain ⟨hnb193, hnc193⟩ := nb_ NB464_450
        obtain ⟨hnb194, hnc194⟩ := nb_ NB464_451
        have hcz195 := blk_all11 BK464.out
        obtain ⟨hnb196, hnc196⟩ := nb_ NB450_451
        have hcz197 := blk_all5 BK450.out
        have hcz198 := blk_all5 BK451.out
        go_wp2
        refine bodyPost_ret (results_ct rfl _ _ gb451 59 #[.int .i64 0, .int .i64 0, .int .i64 0, .bool false, .bool false] (0, 0) _ rfl bk_now Tryd.underlying59 rfl (by kernel_rfl)) rfl ?_
        exact ⟨ret_now, b_now⟩
      ·rw [if_neg c143] at H
       obtain ⟨c143b0, c143b1⟩ := eqF c143
       by_cases c199 : t460 = 0
       ·rw [if_pos c199] at H
        obtain ⟨c199b0, c199b1⟩ := eqT c199
        clear c199
        by_cases c200 : a0_3 = 0
        ·rw [if_pos c200] at H
         obtain ⟨c200b0, c200b1⟩ := eqT c200
         clear c200
         by_cases c201 : t461 = 0
         ·rw [if_pos c201] at H
          obtain ⟨c201b0, c201b1⟩ := eqT c201
          clear c201
          by_cases c202 : a0_4 = 0
          ·rw [if_pos c202] at H
           obtain ⟨c202b0, c202b1⟩ := eqT c202
           clear c202
           obtain ⟨rfl, rfl, rfl, rfl, rfl, rfl⟩ := pi6 H
           obtain ⟨hnb203, hnc203⟩ := nb_ NB464_450
           obtain ⟨hnb204, hnc204⟩ := nb_ NB464_451
           have hcz205 := blk_all11 BK464.out
           obtain ⟨hnb206, hnc206⟩ := nb_ NB450_451
           have hcz207 := blk_all5 BK450.out
           have hcz208 := blk_all5 BK451.out
           go_wp2
           refine bodyPost_ret (results_ct rfl _ _ gb451 59 #[.int .i64 t453, .int .i64 t454, .int .i64 t455, .bool t456, .bool t457] (0, 0) _ rfl bk_now Tryd.underlying59 rfl (by kernel_rfl)) rfl ?_
           exact ⟨ret_now, b_now⟩
          ·rw [if_neg c202] at H
           obtain ⟨c202b0, c202b1⟩ := eqF c202
           obtain ⟨rfl, rfl, rfl, rfl, rfl, rfl⟩ := pi6 H
           obtain ⟨hnb209, hnc209⟩ := nb_ NB464_450
           obtain ⟨hnb210, hnc210⟩ := nb_ NB464_451
           have hcz211 := blk_all11 BK464.out
           obtain ⟨hnb212, hnc212⟩ := nb_ NB450_451
           have hcz213 := blk_all5 BK450.out
           have hcz214 := blk_all5 BK451.out
           go_wp2
           refine bodyPost_ret (results_ct rfl _ _ gb451 59 #[.int .i64 0, .int .i64 0, .int .i64 0, .bool false, .bool false] (0, 0) _ rfl bk_now Tryd.underlying59 rfl (by kernel_rfl)) rfl ?_
           exact ⟨ret_now, b_now⟩
         ·rw [if_neg c201] at H
          obtain ⟨c201b0, c201b1⟩ := eqF c201
          obtain ⟨rfl, rfl, rfl, rfl, rfl, rfl⟩ := pi6 H
          obtain ⟨hnb215, hnc215⟩ := nb_ NB464_450
          obtain ⟨hnb216, hnc216⟩ := nb_ NB464_451
          have hcz217 := blk_all11 BK464.out
          obtain ⟨hnb218, hnc218⟩ := nb_ NB450_451
          have hcz219 := blk_all5 BK450.out
          have hcz220 := blk_all5 BK451.out
          go_wp2
          refine bodyPost_ret (results_ct rfl _ _ gb451 59 #[.int .i64 t453, .int .i64 t454, .int .i64 t455, .bool t456, .bool t457] (0, 0) _ rfl bk_now Tryd.underlying59 rfl (by kernel_rfl)) rfl ?_
          exact ⟨ret_now, b_now⟩
        ·rw [if_neg c200] at H
         obtain ⟨c200b0, c200b1⟩ := eqF c200
         obtain ⟨rfl, rfl, rfl, rfl, rfl, rfl⟩ := pi6 H
         obtain ⟨hnb221, hnc221⟩ := nb_ NB464_450
         obtain ⟨hnb222, hnc222⟩ := nb_ NB464_451
         have hcz223 := blk_all11 BK464.out
         obtain ⟨hnb224, hnc224⟩ := nb_ NB450_451
         have hcz225 := blk_all5 BK450.out
         have hcz226 := blk_all5 BK451.out
         go_wp2
         refine bodyPost_ret (results_ct rfl _ _ gb451 59 #[.int .i64 0, .int .i64 0, .int .i64 0, .bool false, .bool false] (0, 0) _ rfl bk_now Tryd.underlying59 rfl (by kernel_rfl)) rfl ?_
         exact ⟨ret_now, b_now⟩
       ·rw [if_neg c199] at H
        obtain ⟨c199b0, c199b1⟩ := eqF c199
        by_cases c227 : t461 = 0
        ·rw [if_pos c227] at H
         obtain ⟨c227b0, c227b1⟩ := eqT c227
         clear c227
         by_cases c228 : a0_4 = 0
         ·rw [if_pos c228] at H
          obtain ⟨c228b0, c228b1⟩ := eqT c228
          clear c228
          obtain ⟨rfl, rfl, rfl, rfl, rfl, rfl⟩ := pi6 H
          obtain ⟨hnb229, hnc229⟩ := nb_ NB464_450
          obtain ⟨hnb230, hnc230⟩ := nb_ NB464_451
          have hcz231 := blk_all11 BK464.out
          obtain ⟨hnb232, hnc232⟩ := nb_ NB450_451
          have hcz233 := blk_all5 BK450.out
          have hcz234 := blk_all5 BK451.out
          go_wp2
          refine bodyPost_ret (results_ct rfl _ _ gb451 59 #[.int .i64 t453, .int .i64 t454, .int .i64 t455, .bool t456, .bool t457] (0, 0) _ rfl bk_now Tryd.underlying59 rfl (by kernel_rfl)) rfl ?_
          exact ⟨ret_now, b_now⟩
         ·rw [if_neg c228] at H
          obtain ⟨c228b0, c228b1⟩ := eqF c228
          obtain ⟨rfl, rfl, rfl, rfl, rfl, rfl⟩ := pi6 H
          obtain ⟨hnb235, hnc235⟩ := nb_ NB464_450
          obtain ⟨hnb236, hnc236⟩ := nb_ NB464_451
          have hcz237 := blk_all11 BK464.out
          obtain ⟨hnb238, hnc238⟩ := nb_ NB450_451
          have hcz239 := blk_all5 BK450.out
          have hcz240 := blk_all5 BK451.out
          go_wp2
          refine bodyPost_ret (results_ct rfl _ _ gb451 59 #[.int .i64 0, .int .i64 0, .int .i64 0, .bool false, .bool false] (0, 0) _ rfl bk_now Tryd.underlying59 rfl (by kernel_rfl)) rfl ?_
          exact ⟨ret_now, b_now⟩
        ·rw [if_neg c227] at H
         obtain ⟨c227b0, c227b1⟩ := eqF c227
         obtain ⟨rfl, rfl, rfl, rfl, rfl, rfl⟩ := pi6 H
         obtain ⟨hnb241, hnc241⟩ := nb_ NB464_450
         obtain ⟨hnb242, hnc242⟩ := nb_ NB464_451
         have hcz243 := blk_all11 BK464.out
         obtain ⟨hnb244, hnc244⟩ := nb_ NB451_450
         have hcz245 := blk_all5 BK451.out
         go_wp2
         refine bodyPost_ret (results_ct rfl _ _ gb451 59 #[.int .i64 t453, .int .i64 t454, .int .i64 t455, .bool t456, .bool t457] (0, 0) _ rfl bk_now Tryd.underlying59 rfl (by kernel_rfl)) rfl ?_
         exact ⟨ret_now, b_now⟩
 ·replace c3 := Bool.eq_false_iff.mpr c3
  subst c3
  replace H := sh_f H
  obtain ⟨rfl, rfl, rfl, rfl, rfl, rfl⟩ := pi6 H
  go_enter Tryd.func19, Tryd.ntmps19
  go_wp2_with (first | ((with_reducible refine gate_dst (N := 1) rfl ?_); refine sh_box 1 #[.int .u8 a0_0, .int .u8 a0_1, .int .u8 a0_2, .int .i16 a0_3, .int .i32 a0_4] 37 ?_; intro gb450 hg w246 hbox hb; have GE450 := sh_z (w := w) hg; replace HB := sh_b (w := w) hb; have BK450 := Aside0.mk (hbox); clear hb hbox hg) | ((with_reducible refine gate_dst (N := 2) rfl ?_); refine sh_box 2 #[.int .i64 0, .int .i64 0, .int .i64 0, .bool false, .bool false] 59 ?_; intro gb451 hg w247 hbox hb; have GE451 := sh_z (w := w) hg; have NB450_451 := sh_n BK450 hg; have NB451_450 := sh_s NB450_451; replace BK450 := sh_k BK450 hb; replace HB := sh_b (w := w) hb; have BK451 := Aside0.mk (hbox); clear hb hbox hg; obtain ⟨hnb248, hnc248⟩ := nb_ NB450_451; have hcz249 := blk_all5 BK450.out) | ((with_reducible refine gate_callee (f := 32) rfl ?_); refine sh_call (some 8) Tryd.func32 #[.agg #[.int .u8 a0_0, .int .u8 a0_1, .int .u8 a0_2, .int .i16 a0_3, .int .i32 a0_4]] ?_; (with_reducible refine (stockaderef02_Find.calls k a0_0 a0_1 a0_2 a0_3 a0_4 t452 t453 t454 t455 t456 t457 t458 t459 t460 t461 t462 false _ A2.out).mono ?_); rintro e w250 ⟨rfl, hb⟩; refine ⟨_, rfl, ?_⟩; replace BK450 := sh_k BK450 hb; replace BK451 := sh_k BK451 hb; replace HB := sh_b (w := w) hb; (try clear hb); (try clear hb2); (try clear hk); (try clear hi)) | ((with_reducible refine gate_dst (N := 4) rfl ?_); refine sh_box 4 #[.int .u8 0, .int .i64 0, .int .i64 0, .int .i64 0, .bool false, .bool false, .int .i64 0, .int .i64 0, .int .i64 0, .int .i64 0, .int .i64 0] 84 ?_; intro gb464 hg w251 hbox hb; have GE464 := sh_z (w := w) hg; have NB450_464 := sh_n BK450 hg; have NB451_464 := sh_n BK451 hg; have NB464_450 := sh_s NB450_464; have NB464_451 := sh_s NB451_464; replace BK450 := sh_k BK450 hb; replace BK451 := sh_k BK451 hb; replace HB := sh_b (w := w) hb; have BK464 := Aside0.mk (hbox); clear hb hbox hg; obtain ⟨hnb252, hnc252⟩ := nb_ NB464_450; obtain ⟨hnb253, hnc253⟩ := nb_ NB464_451; have hcz254 := blk_all11 BK464.out; have hcz255 := blk_all5 BK451.out))
  refine bodyPost_ret (results_ct rfl _ _ gb451 59 #[.int .i64 0, .int .i64 0, .int .i64 0, .bool false, .bool false] (0, 0) _ rfl bk_now Tryd.underlying59 rfl (by kernel_rfl)) rfl ?_
  exact ⟨ret_now, b_now⟩

end Go.Proofs.YtondogoepcndiaaDoor.P
