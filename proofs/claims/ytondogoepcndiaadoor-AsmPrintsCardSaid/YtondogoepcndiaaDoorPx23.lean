/- Made by this session's driver over the kit's printer: for each Go function a Lean function with the same answers, and a proof that the Go call comes to these answers; no conditions but the ones each theorem names. -/
import Derived.Test.YtondogoepcndiaaDoorPx0
import Derived.Test.YtondogoepcndiaaDoorPx22
namespace Go.Proofs.YtondogoepcndiaaDoor.P
open Go.RowKit Go.Proofs.YtondogoepcndiaaDoorW.PrintWords Go.Proofs.YtondogoepcndiaaDoorW.PrintLast Go.Proofs.YtondogoepcndiaaDoorW.PrintMore
attribute [local go_sem] max2_int min2_int max_two min_two max_three min_three max_four min_four   -- for this text's walks alone
set_option linter.unusedVariables false
set_option linter.unusedSimpArgs false

/-! ### stockaderef02_Find: function 32 -/
def stockaderef02_Find.l0 : Nat → List (S84) → Int → Int → Int → Int → Int → Int → Option (Int × Int × Int × Int × Bool × Bool × Int × Int × Int × Int × Int × Bool)
 | 0, _, _, _, _, _, _, _ => none
 | k + 1, x4, x5, x435000, x435001, x435002, x435003, x435004 => if x5 < (x4.length : Int) then (if 0 ≤ x5 then (if ((rd_T84 x4 x5).f0) = x435000 then (if ((rd_T84 x4 x5).f3) = 4 then (if (wrap64 (x435002)) = ((rd_T84 x4 x5).f6) then (if ((rd_T84 x4 x5).f5) = 4 then (if (wrap64 (x435004)) = ((rd_T84 x4 x5).f6) then (some ((rd_T84 x4 x5).f0, (rd_T84 x4 x5).f1.f0, (rd_T84 x4 x5).f1.f1, (rd_T84 x4 x5).f1.f2, (rd_T84 x4 x5).f1.f3, (rd_T84 x4 x5).f1.f4, (rd_T84 x4 x5).f2, (rd_T84 x4 x5).f3, (rd_T84 x4 x5).f4, (rd_T84 x4 x5).f5, (rd_T84 x4 x5).f6, true)) else (stockaderef02_Find.l0 k x4 (wrap64 (x5 + 1)) x435000 x435001 x435002 x435003 x435004)) else (some ((rd_T84 x4 x5).f0, (rd_T84 x4 x5).f1.f0, (rd_T84 x4 x5).f1.f1, (rd_T84 x4 x5).f1.f2, (rd_T84 x4 x5).f1.f3, (rd_T84 x4 x5).f1.f4, (rd_T84 x4 x5).f2, (rd_T84 x4 x5).f3, (rd_T84 x4 x5).f4, (rd_T84 x4 x5).f5, (rd_T84 x4 x5).f6, true))) else (stockaderef02_Find.l0 k x4 (wrap64 (x5 + 1)) x435000 x435001 x435002 x435003 x435004)) else (if ((rd_T84 x4 x5).f5) = 4 then (if (wrap64 (x435004)) = ((rd_T84 x4 x5).f6) then (some ((rd_T84 x4 x5).f0, (rd_T84 x4 x5).f1.f0, (rd_T84 x4 x5).f1.f1, (rd_T84 x4 x5).f1.f2, (rd_T84 x4 x5).f1.f3, (rd_T84 x4 x5).f1.f4, (rd_T84 x4 x5).f2, (rd_T84 x4 x5).f3, (rd_T84 x4 x5).f4, (rd_T84 x4 x5).f5, (rd_T84 x4 x5).f6, true)) else (stockaderef02_Find.l0 k x4 (wrap64 (x5 + 1)) x435000 x435001 x435002 x435003 x435004)) else (some ((rd_T84 x4 x5).f0, (rd_T84 x4 x5).f1.f0, (rd_T84 x4 x5).f1.f1, (rd_T84 x4 x5).f1.f2, (rd_T84 x4 x5).f1.f3, (rd_T84 x4 x5).f1.f4, (rd_T84 x4 x5).f2, (rd_T84 x4 x5).f3, (rd_T84 x4 x5).f4, (rd_T84 x4 x5).f5, (rd_T84 x4 x5).f6, true)))) else (stockaderef02_Find.l0 k x4 (wrap64 (x5 + 1)) x435000 x435001 x435002 x435003 x435004)) else (none)) else (some (0, 0, 0, 0, false, false, 0, 0, 0, 0, 0, false))
def stockaderef02_Find.f (k : Nat) (a0_0 : Int) (a0_1 : Int) (a0_2 : Int) (a0_3 : Int) (a0_4 : Int) : Option (Int × Int × Int × Int × Bool × Bool × Int × Int × Int × Int × Int × Bool) := (stockaderef02_Rows.f k).bind fun t436 => (stockaderef02_Find.l0 k t436 0 a0_0 a0_1 a0_2 a0_3 a0_4)
theorem stockaderef02_Find.mono_l : ∀ k, (∀ y0 y1 y2 y3 y4 y5 y6, LeO (stockaderef02_Find.l0 k y0 y1 y2 y3 y4 y5 y6) (stockaderef02_Find.l0 (k + 1) y0 y1 y2 y3 y4 y5 y6))
 | 0 => fun _ _ _ _ _ _ _ r h => by simp [stockaderef02_Find.l0] at h
 | k + 1 => by
  have ih0 := stockaderef02_Find.mono_l k
  ·intro y0 y1 y2 y3 y4 y5 y6
   unfold stockaderef02_Find.l0
   repeat' first
   | (with_reducible exact ih0 _ _ _ _ _ _ _)
   | (with_reducible exact stockaderef02_Rows.mono _)
   | (with_reducible exact LeO.refl _)
   | (with_reducible exact LeO.none _)
   | (with_reducible refine LeO.ite ?_ ?_)
   | (with_reducible refine LeO.bind ?_ (fun _ => ?_))
   | refine LeO.ite ?_ ?_
   | refine LeO.bind ?_ (fun _ => ?_)
theorem stockaderef02_Find.mono : ∀ a0 a1 a2 a3 a4 k, LeO (stockaderef02_Find.f k a0 a1 a2 a3 a4) (stockaderef02_Find.f (k + 1) a0 a1 a2 a3 a4) := by
 intro a0 a1 a2 a3 a4 k
 have ih0 := stockaderef02_Find.mono_l k
 unfold stockaderef02_Find.f
 repeat' first
   | (with_reducible exact ih0 _ _ _ _ _ _ _)
   | (with_reducible exact stockaderef02_Rows.mono _)
   | (with_reducible exact LeO.refl _)
   | (with_reducible exact LeO.none _)
   | (with_reducible refine LeO.ite ?_ ?_)
   | (with_reducible refine LeO.bind ?_ (fun _ => ?_))
   | refine LeO.ite ?_ ?_
   | refine LeO.bind ?_ (fun _ => ?_)
set_option maxHeartbeats 8000000 in
set_option maxRecDepth 100000 in
theorem stockaderef02_Find.calls (k : Nat) (a0_0 : Int) (a0_1 : Int) (a0_2 : Int) (a0_3 : Int) (a0_4 : Int) (r1 : Int) (r2 : Int) (r3 : Int) (r4 : Int) (r5 : Bool) (r6 : Bool) (r7 : Int) (r8 : Int) (r9 : Int) (r10 : Int) (r11 : Int) (r12 : Bool) (w : World) (h : stockaderef02_Find.f k a0_0 a0_1 a0_2 a0_3 a0_4 = some (r1, r2, r3, r4, r5, r6, r7, r8, r9, r10, r11, r12)) :
  Calls Tryd.prog 32 #[.agg #[.int .u8 a0_0, .int .u8 a0_1, .int .u8 a0_2, .int .i16 a0_3, .int .i32 a0_4]] w fun e w' => e = .returned (.tuple #[.agg #[.int .u8 r1, .int .i64 r2, .int .i64 r3, .int .i64 r4, .bool r5, .bool r6, .int .i64 r7, .int .i64 r8, .int .i64 r9, .int .i64 r10, .int .i64 r11], .bool r12]) ∧ Below w.heap.size w w' := by
 have hu37 := Tryd.underlying37
 have hu84 := Tryd.underlying84
 have HB := Aside0.mk (Below.refl w.heap.size w)
 have H : ((stockaderef02_Rows.f k).bind fun t436 => (stockaderef02_Find.l0 k t436 0 a0_0 a0_1 a0_2 a0_3 a0_4)) = some (r1, r2, r3, r4, r5, r6, r7, r8, r9, r10, r11, r12) := h
 clear h
 obtain ⟨t436, A2, H⟩ := bs_ H; try dsimp only at H
 have H' := Aside0.mk H
 clear H
 go_enter Tryd.func32, Tryd.ntmps32
 go_wp2_with (first | ((with_reducible refine gate_dst (N := 1) rfl ?_); refine sh_box 1 #[.int .u8 a0_0, .int .u8 a0_1, .int .u8 a0_2, .int .i16 a0_3, .int .i32 a0_4] 37 ?_; intro gb434 hg w3 hbox hb; have GE434 := sh_z (w := w) hg; replace HB := sh_b (w := w) hb; have BK434 := Aside0.mk (hbox); clear hb hbox hg) | ((with_reducible refine gate_dst (N := 2) rfl ?_); refine sh_box 2 #[.int .u8 0, .int .i64 0, .int .i64 0, .int .i64 0, .bool false, .bool false, .int .i64 0, .int .i64 0, .int .i64 0, .int .i64 0, .int .i64 0] 84 ?_; intro gb435 hg w4 hbox hb; have GE435 := sh_z (w := w) hg; have NB434_435 := sh_n BK434 hg; have NB435_434 := sh_s NB434_435; replace BK434 := sh_k BK434 hb; replace HB := sh_b (w := w) hb; have BK435 := Aside0.mk (hbox); clear hb hbox hg) | (go_at_call 42; (with_reducible refine (stockaderef02_Rows.calls k  t436 _ A2.out).mono ?_); rintro e w5 ⟨v437, rfl, ho0, hb⟩; have HO438 := Aside0.mk (Kd.R_lower (Kd.R_newB ho0 (g := gb435) (o := .cells #[.int .u8 0, .int .i64 0, .int .i64 0, .int .i64 0, .bool false, .bool false, .int .i64 0, .int .i64 0, .int .i64 0, .int .i64 0, .int .i64 0] 84 (0, 0)) bk_now) (below_size b_now)); replace BK434 := sh_k BK434 hb; replace BK435 := sh_k BK435 hb; replace HB := sh_b (w := w) hb; (try clear hb); (try clear hb2); (try clear hk); (try clear hi); (try clear ho0)))
 repeat (go_quiet (first | ((with_reducible refine gate_dst (N := 1) rfl ?_); refine sh_box 1 #[.int .u8 a0_0, .int .u8 a0_1, .int .u8 a0_2, .int .i16 a0_3, .int .i32 a0_4] 37 ?_; intro gb434 hg w3 hbox hb; have GE434 := sh_z (w := w) hg; replace HB := sh_b (w := w) hb; have BK434 := Aside0.mk (hbox); clear hb hbox hg) | ((with_reducible refine gate_dst (N := 2) rfl ?_); refine sh_box 2 #[.int .u8 0, .int .i64 0, .int .i64 0, .int .i64 0, .bool false, .bool false, .int .i64 0, .int .i64 0, .int .i64 0, .int .i64 0, .int .i64 0] 84 ?_; intro gb435 hg w4 hbox hb; have GE435 := sh_z (w := w) hg; have NB434_435 := sh_n BK434 hg; have NB435_434 := sh_s NB434_435; replace BK434 := sh_k BK434 hb; replace HB := sh_b (w := w) hb; have BK435 := Aside0.mk (hbox); clear hb hbox hg) | (go_at_call 42; (with_reducible refine (stockaderef02_Rows.calls k  t436 _ A2.out).mono ?_); rintro e w5 ⟨v437, rfl, ho0, hb⟩; have HO438 := Aside0.mk (Kd.R_lower (Kd.R_newB ho0 (g := gb435) (o := .cells #[.int .u8 0, .int .i64 0, .int .i64 0, .int .i64 0, .bool false, .bool false, .int .i64 0, .int .i64 0, .int .i64 0, .int .i64 0, .int .i64 0] 84 (0, 0)) bk_now) (below_size b_now)); replace BK434 := sh_k BK434 hb; replace BK435 := sh_k BK435 hb; replace HB := sh_b (w := w) hb; (try clear hb); (try clear hb2); (try clear hk); (try clear hi); (try clear ho0))); try go_wp2_with (first | ((with_reducible refine gate_dst (N := 1) rfl ?_); refine sh_box 1 #[.int .u8 a0_0, .int .u8 a0_1, .int .u8 a0_2, .int .i16 a0_3, .int .i32 a0_4] 37 ?_; intro gb434 hg w3 hbox hb; have GE434 := sh_z (w := w) hg; replace HB := sh_b (w := w) hb; have BK434 := Aside0.mk (hbox); clear hb hbox hg) | ((with_reducible refine gate_dst (N := 2) rfl ?_); refine sh_box 2 #[.int .u8 0, .int .i64 0, .int .i64 0, .int .i64 0, .bool false, .bool false, .int .i64 0, .int .i64 0, .int .i64 0, .int .i64 0, .int .i64 0] 84 ?_; intro gb435 hg w4 hbox hb; have GE435 := sh_z (w := w) hg; have NB434_435 := sh_n BK434 hg; have NB435_434 := sh_s NB434_435; replace BK434 := sh_k BK434 hb; replace HB := sh_b (w := w) hb; have BK435 := Aside0.mk (hbox); clear hb hbox hg) | (go_at_call 42; (with_reducible refine (stockaderef02_Rows.calls k  t436 _ A2.out).mono ?_); rintro e w5 ⟨v437, rfl, ho0, hb⟩; have HO438 := Aside0.mk (Kd.R_lower (Kd.R_newB ho0 (g := gb435) (o := .cells #[.int .u8 0, .int .i64 0, .int .i64 0, .int .i64 0, .bool false, .bool false, .int .i64 0, .int .i64 0, .int .i64 0, .int .i64 0, .int .i64 0] 84 (0, 0)) bk_now) (below_size b_now)); replace BK434 := sh_k BK434 hb; replace BK435 := sh_k BK435 hb; replace HB := sh_b (w := w) hb; (try clear hb); (try clear hb2); (try clear hk); (try clear hi); (try clear ho0))))
 go_loopg [5] k (fun kq v5 w' => ∃ (x5_1 : Int) (x436000_1 : Int) (x436001_1 : Int) (x436002_1 : Int) (x436003_1 : Int) (x436004_1 : Bool) (x436005_1 : Bool) (x436006_1 : Int) (x436007_1 : Int) (x436008_1 : Int) (x436009_1 : Int) (x436010_1 : Int), v5 = .int .i64 x5_1 ∧ Aside0 (stockaderef02_Find.l0 kq t436 x5_1 a0_0 a0_1 a0_2 a0_3 a0_4 = some (r1, r2, r3, r4, r5, r6, r7, r8, r9, r10, r11, r12)) ∧ Aside0 (kq ≤ k) ∧ Aside0 (Kd.R k84 84 w' w.heap.size (fun k_ => k_ ≠ gb435) v437 t436) ∧ Aside0 (w'.heap[gb434]? = some (.cells #[.int .u8 a0_0, .int .u8 a0_1, .int .u8 a0_2, .int .i16 a0_3, .int .i32 a0_4] 37 (0, 0))) ∧ Aside0 (w'.heap[gb435]? = some (.cells #[.int .u8 x436000_1, .int .i64 x436001_1, .int .i64 x436002_1, .int .i64 x436003_1, .bool x436004_1, .bool x436005_1, .int .i64 x436006_1, .int .i64 x436007_1, .int .i64 x436008_1, .int .i64 x436009_1, .int .i64 x436010_1] 84 (0, 0))) ∧ Aside0 (Below w.heap.size w w'))
 case atStart => exact ⟨(0), (0), (0), (0), (0), (false), (false), (0), (0), (0), (0), (0), eq_now, H', ⟨Nat.le_refl _⟩, ⟨by (with_reducible repeat (first | apply Kd.R_alloc | apply Kd.R_drewN | apply Kd.R_drew)); exact Kd.R_mono HO438.out (fun _ hk => hk.2)⟩, ⟨bk_now⟩, ⟨bk_now⟩, ⟨b_now⟩⟩
 case round =>
  clear H'
  try clear p2
  try clear c3
  obtain ⟨x5_1, x436000_1, x436001_1, x436002_1, x436003_1, x436004_1, x436005_1, x436006_1, x436007_1, x436008_1, x436009_1, x436010_1, rfl, HA, HK1, HO_4, BK434, BK435, HB⟩ := hrel
  cases gk with
  | zero => exact absurd HA.out (by simp [stockaderef02_Find.l0])
  | succ k1 =>
   have H := HA.out
   clear HA
   simp only [stockaderef02_Find.l0] at H
   by_cases c6 : x5_1 < (t436.length : Int)
   ·rw [if_pos c6] at H
    have c6b0 : decide (x5_1 < (t436.length : Int)) = true := decide_eq_true c6
    clear c6
    by_cases c7 : 0 ≤ x5_1
    ·rw [if_pos c7] at H
     have c7b0 : decide (0 ≤ x5_1) = true := decide_eq_true c7
     clear c7
     by_cases c8 : ((rd_T84 t436 x5_1).f0) = a0_0
     ·rw [if_pos c8] at H
      obtain ⟨c8b0, c8b1⟩ := eqT c8
      clear c8
      by_cases c9 : ((rd_T84 t436 x5_1).f3) = 4
      ·rw [if_pos c9] at H
       obtain ⟨c9b0, c9b1⟩ := eqT c9
       clear c9
       by_cases c10 : (wrap64 (a0_2)) = ((rd_T84 t436 x5_1).f6)
       ·rw [if_pos c10] at H
        obtain ⟨c10b0, c10b1⟩ := eqT c10
        clear c10
        by_cases c11 : ((rd_T84 t436 x5_1).f5) = 4
        ·rw [if_pos c11] at H
         obtain ⟨c11b0, c11b1⟩ := eqT c11
         clear c11
         by_cases c12 : (wrap64 (a0_4)) = ((rd_T84 t436 x5_1).f6)
         ·rw [if_pos c12] at H
          obtain ⟨c12b0, c12b1⟩ := eqT c12
          clear c12
          simp only [Option.some.injEq, Prod.mk.injEq] at H
          obtain ⟨rfl, rfl, rfl, rfl, rfl, rfl, rfl, rfl, rfl, rfl, rfl, rfl⟩ := H
          obtain ⟨Ao13, co13, eo13⟩ := Kd.R_slice HO_4.out
          subst eo13
          have p439 : 0 ≤ (x5_1 : Int) := od_
          have q439 : x5_1 < (t436.length : Int) := od_
          obtain ⟨ad439, e439, hx439_0, hx439_1, hx439_2, hx439_3, hx439_4, hx439_5, hx439_6, hx439_7, hx439_8, hx439_9, hx439_10⟩ := at_T84 (Kd.R_reads' HO_4.out).2.2 x5_1 p439 q439
          cases e439
          replace p439 := eq_true p439
          replace q439 := eq_true q439
          obtain ⟨hnb14, hnc14⟩ := nb_ NB434_435
          have hcz15 := blk_all5 BK434.out
          have p440 : 0 ≤ (x5_1 : Int) := od_
          have q440 : x5_1 < (t436.length : Int) := od_
          obtain ⟨ad440, e440, hx440_0, hx440_1, hx440_2, hx440_3, hx440_4, hx440_5, hx440_6, hx440_7, hx440_8, hx440_9, hx440_10⟩ := at_T84 (Kd.R_reads' HO_4.out).2.2 x5_1 p440 q440
          obtain rfl : ad439 = ad440 := (by injection e440)
          replace p440 := eq_true p440
          replace q440 := eq_true q440
          have p441 : 0 ≤ (x5_1 : Int) := od_
          have q441 : x5_1 < (t436.length : Int) := od_
          obtain ⟨ad441, e441, hx441_0, hx441_1, hx441_2, hx441_3, hx441_4, hx441_5, hx441_6, hx441_7, hx441_8, hx441_9, hx441_10⟩ := at_T84 (Kd.R_reads' HO_4.out).2.2 x5_1 p441 q441
          obtain rfl : ad439 = ad441 := (by injection e441)
          replace p441 := eq_true p441
          replace q441 := eq_true q441
          have p442 : 0 ≤ (x5_1 : Int) := od_
          have q442 : x5_1 < (t436.length : Int) := od_
          obtain ⟨ad442, e442, hx442_0, hx442_1, hx442_2, hx442_3, hx442_4, hx442_5, hx442_6, hx442_7, hx442_8, hx442_9, hx442_10⟩ := at_T84 (Kd.R_reads' HO_4.out).2.2 x5_1 p442 q442
          obtain rfl : ad439 = ad442 := (by injection e442)
          replace p442 := eq_true p442
          replace q442 := eq_true q442
          have p443 : 0 ≤ (x5_1 : Int) := od_
          have q443 : x5_1 < (t436.length : Int) := od_
          obtain ⟨ad443, e443, hx443_0, hx443_1, hx443_2, hx443_3, hx443_4, hx443_5, hx443_6, hx443_7, hx443_8, hx443_9, hx443_10⟩ := at_T84 (Kd.R_reads' HO_4.out).2.2 x5_1 p443 q443
          obtain rfl : ad439 = ad443 := (by injection e443)
          replace p443 := eq_true p443
          replace q443 := eq_true q443
          have p444 : 0 ≤ (x5_1 : Int) := od_
          have q444 : x5_1 < (t436.length : Int) := od_
          obtain ⟨ad444, e444, hx444_0, hx444_1, hx444_2, hx444_3, hx444_4, hx444_5, hx444_6, hx444_7, hx444_8, hx444_9, hx444_10⟩ := at_T84 (Kd.R_reads' HO_4.out).2.2 x5_1 p444 q444
          obtain rfl : ad439 = ad444 := (by injection e444)
          replace p444 := eq_true p444
          replace q444 := eq_true q444
          have hcz16 := blk_all11 BK435.out
          go_wp2
          repeat (go_quiet (fail); try go_wp2)
          refine bodyPost_ret (results_ct rfl _ _ gb435 84 #[.int .u8 ((rd_T84 t436 x5_1).f0), .int .i64 ((rd_T84 t436 x5_1).f1.f0), .int .i64 ((rd_T84 t436 x5_1).f1.f1), .int .i64 ((rd_T84 t436 x5_1).f1.f2), .bool ((rd_T84 t436 x5_1).f1.f3), .bool ((rd_T84 t436 x5_1).f1.f4), .int .i64 ((rd_T84 t436 x5_1).f2), .int .i64 ((rd_T84 t436 x5_1).f3), .int .i64 ((rd_T84 t436 x5_1).f4), .int .i64 ((rd_T84 t436 x5_1).f5), .int .i64 ((rd_T84 t436 x5_1).f6)] (0, 0) _ rfl bk_now Tryd.underlying84 rfl (by kernel_rfl)) rfl ?_
          exact ⟨ret_now, b_now⟩
         ·rw [if_neg c12] at H
          obtain ⟨c12b0, c12b1⟩ := eqF c12
          have H' := Aside0.mk H
          clear H
          obtain ⟨Ao17, co17, eo17⟩ := Kd.R_slice HO_4.out
          subst eo17
          have p439 : 0 ≤ (x5_1 : Int) := od_
          have q439 : x5_1 < (t436.length : Int) := od_
          obtain ⟨ad439, e439, hx439_0, hx439_1, hx439_2, hx439_3, hx439_4, hx439_5, hx439_6, hx439_7, hx439_8, hx439_9, hx439_10⟩ := at_T84 (Kd.R_reads' HO_4.out).2.2 x5_1 p439 q439
          cases e439
          replace p439 := eq_true p439
          replace q439 := eq_true q439
          obtain ⟨hnb18, hnc18⟩ := nb_ NB434_435
          have hcz19 := blk_all5 BK434.out
          have p440 : 0 ≤ (x5_1 : Int) := od_
          have q440 : x5_1 < (t436.length : Int) := od_
          obtain ⟨ad440, e440, hx440_0, hx440_1, hx440_2, hx440_3, hx440_4, hx440_5, hx440_6, hx440_7, hx440_8, hx440_9, hx440_10⟩ := at_T84 (Kd.R_reads' HO_4.out).2.2 x5_1 p440 q440
          obtain rfl : ad439 = ad440 := (by injection e440)
          replace p440 := eq_true p440
          replace q440 := eq_true q440
          have p441 : 0 ≤ (x5_1 : Int) := od_
          have q441 : x5_1 < (t436.length : Int) := od_
          obtain ⟨ad441, e441, hx441_0, hx441_1, hx441_2, hx441_3, hx441_4, hx441_5, hx441_6, hx441_7, hx441_8, hx441_9, hx441_10⟩ := at_T84 (Kd.R_reads' HO_4.out).2.2 x5_1 p441 q441
          obtain rfl : ad439 = ad441 := (by injection e441)
          replace p441 := eq_true p441
          replace q441 := eq_true q441
          have p442 : 0 ≤ (x5_1 : Int) := od_
          have q442 : x5_1 < (t436.length : Int) := od_
          obtain ⟨ad442, e442, hx442_0, hx442_1, hx442_2, hx442_3, hx442_4, hx442_5, hx442_6, hx442_7, hx442_8, hx442_9, hx442_10⟩ := at_T84 (Kd.R_reads' HO_4.out).2.2 x5_1 p442 q442
          obtain rfl : ad439 = ad442 := (by injection e442)
          replace p442 := eq_true p442
          replace q442 := eq_true q442
          have p443 : 0 ≤ (x5_1 : Int) := od_
          have q443 : x5_1 < (t436.length : Int) := od_
          obtain ⟨ad443, e443, hx443_0, hx443_1, hx443_2, hx443_3, hx443_4, hx443_5, hx443_6, hx443_7, hx443_8, hx443_9, hx443_10⟩ := at_T84 (Kd.R_reads' HO_4.out).2.2 x5_1 p443 q443
          obtain rfl : ad439 = ad443 := (by injection e443)
          replace p443 := eq_true p443
          replace q443 := eq_true q443
          go_wp2
          repeat (go_quiet (fail); try go_wp2)
          go_roundg k1
          case measure => have := HK1.out; omega
          case rel => exact ⟨(wrap64 (x5_1 + 1)), (x436000_1), (x436001_1), (x436002_1), (x436003_1), (x436004_1), (x436005_1), (x436006_1), (x436007_1), (x436008_1), (x436009_1), (x436010_1), eq_now, H', ⟨by have := HK1.out; omega⟩, ⟨by (with_reducible repeat (first | apply Kd.R_alloc | apply Kd.R_drewN | apply Kd.R_drew)); exact HO_4.out⟩, ⟨bk_now⟩, ⟨bk_now⟩, ⟨b_now⟩⟩
        ·rw [if_neg c11] at H
         obtain ⟨c11b0, c11b1⟩ := eqF c11
         simp only [Option.some.injEq, Prod.mk.injEq] at H
         obtain ⟨rfl, rfl, rfl, rfl, rfl, rfl, rfl, rfl, rfl, rfl, rfl, rfl⟩ := H
         obtain ⟨Ao20, co20, eo20⟩ := Kd.R_slice HO_4.out
         subst eo20
         have p439 : 0 ≤ (x5_1 : Int) := od_
         have q439 : x5_1 < (t436.length : Int) := od_
         obtain ⟨ad439, e439, hx439_0, hx439_1, hx439_2, hx439_3, hx439_4, hx439_5, hx439_6, hx439_7, hx439_8, hx439_9, hx439_10⟩ := at_T84 (Kd.R_reads' HO_4.out).2.2 x5_1 p439 q439
         cases e439
         replace p439 := eq_true p439
         replace q439 := eq_true q439
         obtain ⟨hnb21, hnc21⟩ := nb_ NB434_435
         have hcz22 := blk_all5 BK434.out
         have p440 : 0 ≤ (x5_1 : Int) := od_
         have q440 : x5_1 < (t436.length : Int) := od_
         obtain ⟨ad440, e440, hx440_0, hx440_1, hx440_2, hx440_3, hx440_4, hx440_5, hx440_6, hx440_7, hx440_8, hx440_9, hx440_10⟩ := at_T84 (Kd.R_reads' HO_4.out).2.2 x5_1 p440 q440
         obtain rfl : ad439 = ad440 := (by injection e440)
         replace p440 := eq_true p440
         replace q440 := eq_true q440
         have p441 : 0 ≤ (x5_1 : Int) := od_
         have q441 : x5_1 < (t436.length : Int) := od_
         obtain ⟨ad441, e441, hx441_0, hx441_1, hx441_2, hx441_3, hx441_4, hx441_5, hx441_6, hx441_7, hx441_8, hx441_9, hx441_10⟩ := at_T84 (Kd.R_reads' HO_4.out).2.2 x5_1 p441 q441
         obtain rfl : ad439 = ad441 := (by injection e441)
         replace p441 := eq_true p441
         replace q441 := eq_true q441
         have p442 : 0 ≤ (x5_1 : Int) := od_
         have q442 : x5_1 < (t436.length : Int) := od_
         obtain ⟨ad442, e442, hx442_0, hx442_1, hx442_2, hx442_3, hx442_4, hx442_5, hx442_6, hx442_7, hx442_8, hx442_9, hx442_10⟩ := at_T84 (Kd.R_reads' HO_4.out).2.2 x5_1 p442 q442
         obtain rfl : ad439 = ad442 := (by injection e442)
         replace p442 := eq_true p442
         replace q442 := eq_true q442
         have p445 : 0 ≤ (x5_1 : Int) := od_
         have q445 : x5_1 < (t436.length : Int) := od_
         obtain ⟨ad445, e445, hx445_0, hx445_1, hx445_2, hx445_3, hx445_4, hx445_5, hx445_6, hx445_7, hx445_8, hx445_9, hx445_10⟩ := at_T84 (Kd.R_reads' HO_4.out).2.2 x5_1 p445 q445
         obtain rfl : ad439 = ad445 := (by injection e445)
         replace p445 := eq_true p445
         replace q445 := eq_true q445
         have hcz23 := blk_all11 BK435.out
         go_wp2
         repeat (go_quiet (fail); try go_wp2)
         refine bodyPost_ret (results_ct rfl _ _ gb435 84 #[.int .u8 ((rd_T84 t436 x5_1).f0), .int .i64 ((rd_T84 t436 x5_1).f1.f0), .int .i64 ((rd_T84 t436 x5_1).f1.f1), .int .i64 ((rd_T84 t436 x5_1).f1.f2), .bool ((rd_T84 t436 x5_1).f1.f3), .bool ((rd_T84 t436 x5_1).f1.f4), .int .i64 ((rd_T84 t436 x5_1).f2), .int .i64 ((rd_T84 t436 x5_1).f3), .int .i64 ((rd_T84 t436 x5_1).f4), .int .i64 ((rd_T84 t436 x5_1).f5), .int .i64 ((rd_T84 t436 x5_1).f6)] (0, 0) _ rfl bk_now Tryd.underlying84 rfl (by kernel_rfl)) rfl ?_
         exact ⟨ret_now, b_now⟩
       ·rw [if_neg c10] at H
        obtain ⟨c10b0, c10b1⟩ := eqF c10
        have H' := Aside0.mk H
        clear H
        obtain ⟨Ao24, co24, eo24⟩ := Kd.R_slice HO_4.out
        subst eo24
        have p439 : 0 ≤ (x5_1 : Int) := od_
        have q439 : x5_1 < (t436.length : Int) := od_
        obtain ⟨ad439, e439, hx439_0, hx439_1, hx439_2, hx439_3, hx439_4, hx439_5, hx439_6, hx439_7, hx439_8, hx439_9, hx439_10⟩ := at_T84 (Kd.R_reads' HO_4.out).2.2 x5_1 p439 q439
        cases e439
        replace p439 := eq_true p439
        replace q439 := eq_true q439
        obtain ⟨hnb25, hnc25⟩ := nb_ NB434_435
        have hcz26 := blk_all5 BK434.out
        have p440 : 0 ≤ (x5_1 : Int) := od_
        have q440 : x5_1 < (t436.length : Int) := od_
        obtain ⟨ad440, e440, hx440_0, hx440_1, hx440_2, hx440_3, hx440_4, hx440_5, hx440_6, hx440_7, hx440_8, hx440_9, hx440_10⟩ := at_T84 (Kd.R_reads' HO_4.out).2.2 x5_1 p440 q440
        obtain rfl : ad439 = ad440 := (by injection e440)
        replace p440 := eq_true p440
        replace q440 := eq_true q440
        have p441 : 0 ≤ (x5_1 : Int) := od_
        have q441 : x5_1 < (t436.length : Int) := od_
        obtain ⟨ad441, e441, hx441_0, hx441_1, hx441_2, hx441_3, hx441_4, hx441_5, hx441_6, hx441_7, hx441_8, hx441_9, hx441_10⟩ := at_T84 (Kd.R_reads' HO_4.out).2.2 x5_1 p441 q441
        obtain rfl : ad439 = ad441 := (by injection e441)
        replace p441 := eq_true p441
        replace q441 := eq_true q441
        go_wp2
        repeat (go_quiet (fail); try go_wp2)
        go_roundg k1
        case measure => have := HK1.out; omega
        case rel => exact ⟨(wrap64 (x5_1 + 1)), (x436000_1), (x436001_1), (x436002_1), (x436003_1), (x436004_1), (x436005_1), (x436006_1), (x436007_1), (x436008_1), (x436009_1), (x436010_1), eq_now, H', ⟨by have := HK1.out; omega⟩, ⟨by (with_reducible repeat (first | apply Kd.R_alloc | apply Kd.R_drewN | apply Kd.R_drew)); exact HO_4.out⟩, ⟨bk_now⟩, ⟨bk_now⟩, ⟨b_now⟩⟩
      ·rw [if_neg c9] at H
       obtain ⟨c9b0, c9b1⟩ := eqF c9
       by_cases c27 : ((rd_T84 t436 x5_1).f5) = 4
       ·rw [if_pos c27] at H
        obtain ⟨c27b0, c27b1⟩ := eqT c27
        clear c27
        by_cases c28 : (wrap64 (a0_4)) = ((rd_T84 t436 x5_1).f6)
        ·rw [if_pos c28] at H
         obtain ⟨c28b0, c28b1⟩ := eqT c28
         clear c28
         simp only [Option.some.injEq, Prod.mk.injEq] at H
         obtain ⟨rfl, rfl, rfl, rfl, rfl, rfl, rfl, rfl, rfl, rfl, rfl, rfl⟩ := H
         obtain ⟨Ao29, co29, eo29⟩ := Kd.R_slice HO_4.out
         subst eo29
         have p439 : 0 ≤ (x5_1 : Int) := od_
         have q439 : x5_1 < (t436.length : Int) := od_
         obtain ⟨ad439, e439, hx439_0, hx439_1, hx439_2, hx439_3, hx439_4, hx439_5, hx439_6, hx439_7, hx439_8, hx439_9, hx439_10⟩ := at_T84 (Kd.R_reads' HO_4.out).2.2 x5_1 p439 q439
         cases e439
         replace p439 := eq_true p439
         replace q439 := eq_true q439
         obtain ⟨hnb30, hnc30⟩ := nb_ NB434_435
         have hcz31 := blk_all5 BK434.out
         have p440 : 0 ≤ (x5_1 : Int) := od_
         have q440 : x5_1 < (t436.length : Int) := od_
         obtain ⟨ad440, e440, hx440_0, hx440_1, hx440_2, hx440_3, hx440_4, hx440_5, hx440_6, hx440_7, hx440_8, hx440_9, hx440_10⟩ := at_T84 (Kd.R_reads' HO_4.out).2.2 x5_1 p440 q440
         obtain rfl : ad439 = ad440 := (by injection e440)
         replace p440 := eq_true p440
         replace q440 := eq_true q440
         have p446 : 0 ≤ (x5_1 : Int) := od_
         have q446 : x5_1 < (t436.length : Int) := od_
         obtain ⟨ad446, e446, hx446_0, hx446_1, hx446_2, hx446_3, hx446_4, hx446_5, hx446_6, hx446_7, hx446_8, hx446_9, hx446_10⟩ := at_T84 (Kd.R_reads' HO_4.out).2.2 x5_1 p446 q446
         obtain rfl : ad439 = ad446 := (by injection e446)
         replace p446 := eq_true p446
         replace q446 := eq_true q446
         have p447 : 0 ≤ (x5_1 : Int) := od_
         have q447 : x5_1 < (t436.length : Int) := od_
         obtain ⟨ad447, e447, hx447_0, hx447_1, hx447_2, hx447_3, hx447_4, hx447_5, hx447_6, hx447_7, hx447_8, hx447_9, hx447_10⟩ := at_T84 (Kd.R_reads' HO_4.out).2.2 x5_1 p447 q447
         obtain rfl : ad439 = ad447 := (by injection e447)
         replace p447 := eq_true p447
         replace q447 := eq_true q447
         have p448 : 0 ≤ (x5_1 : Int) := od_
         have q448 : x5_1 < (t436.length : Int) := od_
         obtain ⟨ad448, e448, hx448_0, hx448_1, hx448_2, hx448_3, hx448_4, hx448_5, hx448_6, hx448_7, hx448_8, hx448_9, hx448_10⟩ := at_T84 (Kd.R_reads' HO_4.out).2.2 x5_1 p448 q448
         obtain rfl : ad439 = ad448 := (by injection e448)
         replace p448 := eq_true p448
         replace q448 := eq_true q448
         have hcz32 := blk_all11 BK435.out
         go_wp2
         repeat (go_quiet (fail); try go_wp2)
         refine bodyPost_ret (results_ct rfl _ _ gb435 84 #[.int .u8 ((rd_T84 t436 x5_1).f0), .int .i64 ((rd_T84 t436 x5_1).f1.f0), .int .i64 ((rd_T84 t436 x5_1).f1.f1), .int .i64 ((rd_T84 t436 x5_1).f1.f2), .bool ((rd_T84 t436 x5_1).f1.f3), .bool ((rd_T84 t436 x5_1).f1.f4), .int .i64 ((rd_T84 t436 x5_1).f2), .int .i64 ((rd_T84 t436 x5_1).f3), .int .i64 ((rd_T84 t436 x5_1).f4), .int .i64 ((rd_T84 t436 x5_1).f5), .int .i64 ((rd_T84 t436 x5_1).f6)] (0, 0) _ rfl bk_now Tryd.underlying84 rfl (by kernel_rfl)) rfl ?_
         exact ⟨ret_now, b_now⟩
        ·rw [if_neg c28] at H
         obtain ⟨c28b0, c28b1⟩ := eqF c28
         have H' := Aside0.mk H
         clear H
         obtain ⟨Ao33, co33, eo33⟩ := Kd.R_slice HO_4.out
         subst eo33
         have p439 : 0 ≤ (x5_1 : Int) := od_
         have q439 : x5_1 < (t436.length : Int) := od_
         obtain ⟨ad439, e439, hx439_0, hx439_1, hx439_2, hx439_3, hx439_4, hx439_5, hx439_6, hx439_7, hx439_8, hx439_9, hx439_10⟩ := at_T84 (Kd.R_reads' HO_4.out).2.2 x5_1 p439 q439
         cases e439
         replace p439 := eq_true p439
         replace q439 := eq_true q439
         obtain ⟨hnb34, hnc34⟩ := nb_ NB434_435
         have hcz35 := blk_all5 BK434.out
         have p440 : 0 ≤ (x5_1 : Int) := od_
         have q440 : x5_1 < (t436.length : Int) := od_
         obtain ⟨ad440, e440, hx440_0, hx440_1, hx440_2, hx440_3, hx440_4, hx440_5, hx440_6, hx440_7, hx440_8, hx440_9, hx440_10⟩ := at_T84 (Kd.R_reads' HO_4.out).2.2 x5_1 p440 q440
         obtain rfl : ad439 = ad440 := (by injection e440)
         replace p440 := eq_true p440
         replace q440 := eq_true q440
         have p446 : 0 ≤ (x5_1 : Int) := od_
         have q446 : x5_1 < (t436.length : Int) := od_
         obtain ⟨ad446, e446, hx446_0, hx446_1, hx446_2, hx446_3, hx446_4, hx446_5, hx446_6, hx446_7, hx446_8, hx446_9, hx446_10⟩ := at_T84 (Kd.R_reads' HO_4.out).2.2 x5_1 p446 q446
         obtain rfl : ad439 = ad446 := (by injection e446)
         replace p446 := eq_true p446
         replace q446 := eq_true q446
         have p447 : 0 ≤ (x5_1 : Int) := od_
         have q447 : x5_1 < (t436.length : Int) := od_
         obtain ⟨ad447, e447, hx447_0, hx447_1, hx447_2, hx447_3, hx447_4, hx447_5, hx447_6, hx447_7, hx447_8, hx447_9, hx447_10⟩ := at_T84 (Kd.R_reads' HO_4.out).2.2 x5_1 p447 q447
         obtain rfl : ad439 = ad447 := (by injection e447)
         replace p447 := eq_true p447
         replace q447 := eq_true q447
         go_wp2
         repeat (go_quiet (fail); try go_wp2)
         go_roundg k1
         case measure => have := HK1.out; omega
         case rel => exact ⟨(wrap64 (x5_1 + 1)), (x436000_1), (x436001_1), (x436002_1), (x436003_1), (x436004_1), (x436005_1), (x436006_1), (x436007_1), (x436008_1), (x436009_1), (x436010_1), eq_now, H', ⟨by have := HK1.out; omega⟩, ⟨by (with_reducible repeat (first | apply Kd.R_alloc | apply Kd.R_drewN | apply Kd.R_drew)); exact HO_4.out⟩, ⟨bk_now⟩, ⟨bk_now⟩, ⟨b_now⟩⟩
       ·rw [if_neg c27] at H
        obtain ⟨c27b0, c27b1⟩ := eqF c27
        simp only [Option.some.injEq, Prod.mk.injEq] at H
        obtain ⟨rfl, rfl, rfl, rfl, rfl, rfl, rfl, rfl, rfl, rfl, rfl, rfl⟩ := H
        obtain ⟨Ao36, co36, eo36⟩ := Kd.R_slice HO_4.out
        subst eo36
        have p439 : 0 ≤ (x5_1 : Int) := od_
        have q439 : x5_1 < (t436.length : Int) := od_
        obtain ⟨ad439, e439, hx439_0, hx439_1, hx439_2, hx439_3, hx439_4, hx439_5, hx439_6, hx439_7, hx439_8, hx439_9, hx439_10⟩ := at_T84 (Kd.R_reads' HO_4.out).2.2 x5_1 p439 q439
        cases e439
        replace p439 := eq_true p439
        replace q439 := eq_true q439
        obtain ⟨hnb37, hnc37⟩ := nb_ NB434_435
        have hcz38 := blk_all5 BK434.out
        have p440 : 0 ≤ (x5_1 : Int) := od_
        have q440 : x5_1 < (t436.length : Int) := od_
        obtain ⟨ad440, e440, hx440_0, hx440_1, hx440_2, hx440_3, hx440_4, hx440_5, hx440_6, hx440_7, hx440_8, hx440_9, hx440_10⟩ := at_T84 (Kd.R_reads' HO_4.out).2.2 x5_1 p440 q440
        obtain rfl : ad439 = ad440 := (by injection e440)
        replace p440 := eq_true p440
        replace q440 := eq_true q440
        have p446 : 0 ≤ (x5_1 : Int) := od_
        have q446 : x5_1 < (t436.length : Int) := od_
        obtain ⟨ad446, e446, hx446_0, hx446_1, hx446_2, hx446_3, hx446_4, hx446_5, hx446_6, hx446_7, hx446_8, hx446_9, hx446_10⟩ := at_T84 (Kd.R_reads' HO_4.out).2.2 x5_1 p446 q446
        obtain rfl : ad439 = ad446 := (by injection e446)
        replace p446 := eq_true p446
        replace q446 := eq_true q446
        have p449 : 0 ≤ (x5_1 : Int) := od_
        have q449 : x5_1 < (t436.length : Int) := od_
        obtain ⟨ad449, e449, hx449_0, hx449_1, hx449_2, hx449_3, hx449_4, hx449_5, hx449_6, hx449_7, hx449_8, hx449_9, hx449_10⟩ := at_T84 (Kd.R_reads' HO_4.out).2.2 x5_1 p449 q449
        obtain rfl : ad439 = ad449 := (by injection e449)
        replace p449 := eq_true p449
        replace q449 := eq_true q449
        have hcz39 := blk_all11 BK435.out
        go_wp2
        repeat (go_quiet (fail); try go_wp2)
        refine bodyPost_ret (results_ct rfl _ _ gb435 84 #[.int .u8 ((rd_T84 t436 x5_1).f0), .int .i64 ((rd_T84 t436 x5_1).f1.f0), .int .i64 ((rd_T84 t436 x5_1).f1.f1), .int .i64 ((rd_T84 t436 x5_1).f1.f2), .bool ((rd_T84 t436 x5_1).f1.f3), .bool ((rd_T84 t436 x5_1).f1.f4), .int .i64 ((rd_T84 t436 x5_1).f2), .int .i64 ((rd_T84 t436 x5_1).f3), .int .i64 ((rd_T84 t436 x5_1).f4), .int .i64 ((rd_T84 t436 x5_1).f5), .int .i64 ((rd_T84 t436 x5_1).f6)] (0, 0) _ rfl bk_now Tryd.underlying84 rfl (by kernel_rfl)) rfl ?_
        exact ⟨ret_now, b_now⟩
     ·rw [if_neg c8] at H
      obtain ⟨c8b0, c8b1⟩ := eqF c8
      have H' := Aside0.mk H
      clear H
      obtain ⟨Ao40, co40, eo40⟩ := Kd.R_slice HO_4.out
      subst eo40
      have p439 : 0 ≤ (x5_1 : Int) := od_
      have q439 : x5_1 < (t436.length : Int) := od_
      obtain ⟨ad439, e439, hx439_0, hx439_1, hx439_2, hx439_3, hx439_4, hx439_5, hx439_6, hx439_7, hx439_8, hx439_9, hx439_10⟩ := at_T84 (Kd.R_reads' HO_4.out).2.2 x5_1 p439 q439
      cases e439
      replace p439 := eq_true p439
      replace q439 := eq_true q439
      obtain ⟨hnb41, hnc41⟩ := nb_ NB434_435
      have hcz42 := blk_all5 BK434.out
      go_wp2
      repeat (go_quiet (fail); try go_wp2)
      go_roundg k1
      case measure => have := HK1.out; omega
      case rel => exact ⟨(wrap64 (x5_1 + 1)), (x436000_1), (x436001_1), (x436002_1), (x436003_1), (x436004_1), (x436005_1), (x436006_1), (x436007_1), (x436008_1), (x436009_1), (x436010_1), eq_now, H', ⟨by have := HK1.out; omega⟩, ⟨by (with_reducible repeat (first | apply Kd.R_alloc | apply Kd.R_drewN | apply Kd.R_drew)); exact HO_4.out⟩, ⟨bk_now⟩, ⟨bk_now⟩, ⟨b_now⟩⟩
    ·rw [if_neg c7] at H
     exact absurd H (by simp)
   ·rw [if_neg c6] at H
    have c6b0 : decide (x5_1 < (t436.length : Int)) = false := decide_eq_false c6
    clear c6
    simp only [Option.some.injEq, Prod.mk.injEq] at H
    obtain ⟨rfl, rfl, rfl, rfl, rfl, rfl, rfl, rfl, rfl, rfl, rfl, rfl⟩ := H
    obtain ⟨Ao43, co43, eo43⟩ := Kd.R_slice HO_4.out
    subst eo43
    obtain ⟨hnb44, hnc44⟩ := nb_ NB435_434
    have hcz45 := blk_all11 BK435.out
    go_wp2
    repeat (go_quiet (fail); try go_wp2)
    refine bodyPost_ret (results_ct rfl _ _ gb435 84 #[.int .u8 0, .int .i64 0, .int .i64 0, .int .i64 0, .bool false, .bool false, .int .i64 0, .int .i64 0, .int .i64 0, .int .i64 0, .int .i64 0] (0, 0) _ rfl bk_now Tryd.underlying84 rfl (by kernel_rfl)) rfl ?_
    exact ⟨ret_now, b_now⟩

/-! ### stockaderef02_wrong: function 33 -/
def stockaderef02_wrong.f (a0 : Int) (a1 : Int) : Option (Bool) := if a0 = 1 then (if a1 > 10 then (some true) else (if a0 = 2 then (some (decide (a1 > 9))) else (some false))) else (if a0 = 2 then (some (decide (a1 > 9))) else (some false))
set_option maxHeartbeats 8000000 in
set_option maxRecDepth 100000 in
theorem stockaderef02_wrong.calls (a0 : Int) (a1 : Int) (r : Bool) (w : World) (h : stockaderef02_wrong.f a0 a1 = some r) :
  Calls Tryd.prog 33 #[.int .i64 a0, .int .u8 a1] w fun e w' => e = .returned (.bool r) ∧ Drawn0 w w' := by
 have H : (if a0 = 1 then (if a1 > 10 then (some true) else (if a0 = 2 then (some (decide (a1 > 9))) else (some false))) else (if a0 = 2 then (some (decide (a1 > 9))) else (some false))) = some r := h
 clear h
 by_cases c3 : a0 = 1
 ·rw [if_pos c3] at H
  obtain ⟨c3b0, c3b1⟩ := eqT c3
  clear c3
  by_cases c4 : a1 > 10
  ·rw [if_pos c4] at H
   have c4b0 : decide (10 < a1) = true := decide_eq_true c4
   clear c4
   obtain rfl := Option.some.inj H
   go_enter Tryd.func33, Tryd.ntmps33
   go_wp2
   go_ret
   exact ⟨by first | rfl | (simp; done) | (simp [*]; done), by repeat (first | exact Drawn0.refl _ | apply Drawn0.step)⟩
  ·rw [if_neg c4] at H
   have c4b0 : decide (10 < a1) = false := decide_eq_false c4
   clear c4
   by_cases c5 : a0 = 2
   ·rw [if_pos c5] at H
    obtain ⟨c5b0, c5b1⟩ := eqT c5
    clear c5
    obtain rfl := Option.some.inj H
    go_enter Tryd.func33, Tryd.ntmps33
    go_wp2
    go_ret
    exact ⟨by first | rfl | (simp; done) | (simp [*]; done), by repeat (first | exact Drawn0.refl _ | apply Drawn0.step)⟩
   ·rw [if_neg c5] at H
    obtain ⟨c5b0, c5b1⟩ := eqF c5
    obtain rfl := Option.some.inj H
    go_enter Tryd.func33, Tryd.ntmps33
    go_wp2
    go_ret
    exact ⟨by first | rfl | (simp; done) | (simp [*]; done), by repeat (first | exact Drawn0.refl _ | apply Drawn0.step)⟩
 ·rw [if_neg c3] at H
  obtain ⟨c3b0, c3b1⟩ := eqF c3
  by_cases c6 : a0 = 2
  ·rw [if_pos c6] at H
   obtain ⟨c6b0, c6b1⟩ := eqT c6
   clear c6
   obtain rfl := Option.some.inj H
   go_enter Tryd.func33, Tryd.ntmps33
   go_wp2
   go_ret
   exact ⟨by first | rfl | (simp; done) | (simp [*]; done), by repeat (first | exact Drawn0.refl _ | apply Drawn0.step)⟩
  ·rw [if_neg c6] at H
   obtain ⟨c6b0, c6b1⟩ := eqF c6
   obtain rfl := Option.some.inj H
   go_enter Tryd.func33, Tryd.ntmps33
   go_wp2
   go_ret
   exact ⟨by first | rfl | (simp; done) | (simp [*]; done), by repeat (first | exact Drawn0.refl _ | apply Drawn0.step)⟩

end Go.Proofs.YtondogoepcndiaaDoor.P
