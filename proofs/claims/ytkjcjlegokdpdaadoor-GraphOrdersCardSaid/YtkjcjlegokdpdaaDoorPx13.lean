/- Made by this session's driver over the kit's printer: for each Go function a Lean function with the same answers, and a proof that the Go call comes to these answers; no conditions but the ones each theorem names. -/
import Derived.Test.YtkjcjlegokdpdaaDoorPx0
import Derived.Test.YtkjcjlegokdpdaaDoorPx12
namespace Go.Proofs.YtkjcjlegokdpdaaDoor.P
open Go.RowKit Go.Proofs.YtkjcjlegokdpdaaDoorW.PrintWords Go.Proofs.YtkjcjlegokdpdaaDoorW.PrintLast Go.Proofs.YtkjcjlegokdpdaaDoorW.PrintMore
attribute [local go_sem] max2_int min2_int max_two min_two max_three min_three max_four min_four   -- for this text's walks alone
set_option linter.unusedVariables false
set_option linter.unusedSimpArgs false

/-! ### stockaderef02_Find: function 48 -/
def stockaderef02_Find.l0 : Nat → List (S82) → Int → Int → Int → Int → Int → Int → Option (Int × Int × Int × Int × Bool × Bool × Int × Int × Int × Int × Int × Bool)
 | 0, _, _, _, _, _, _, _ => none
 | k + 1, x4, x5, x334000, x334001, x334002, x334003, x334004 => if x5 < (x4.length : Int) then (if 0 ≤ x5 then (if ((rd_T82 x4 x5).f0) = x334000 then (if ((rd_T82 x4 x5).f3) = 4 then (if (wrap64 (x334002)) = ((rd_T82 x4 x5).f6) then (if ((rd_T82 x4 x5).f5) = 4 then (if (wrap64 (x334004)) = ((rd_T82 x4 x5).f6) then (some ((rd_T82 x4 x5).f0, (rd_T82 x4 x5).f1.f0, (rd_T82 x4 x5).f1.f1, (rd_T82 x4 x5).f1.f2, (rd_T82 x4 x5).f1.f3, (rd_T82 x4 x5).f1.f4, (rd_T82 x4 x5).f2, (rd_T82 x4 x5).f3, (rd_T82 x4 x5).f4, (rd_T82 x4 x5).f5, (rd_T82 x4 x5).f6, true)) else (stockaderef02_Find.l0 k x4 (wrap64 (x5 + 1)) x334000 x334001 x334002 x334003 x334004)) else (some ((rd_T82 x4 x5).f0, (rd_T82 x4 x5).f1.f0, (rd_T82 x4 x5).f1.f1, (rd_T82 x4 x5).f1.f2, (rd_T82 x4 x5).f1.f3, (rd_T82 x4 x5).f1.f4, (rd_T82 x4 x5).f2, (rd_T82 x4 x5).f3, (rd_T82 x4 x5).f4, (rd_T82 x4 x5).f5, (rd_T82 x4 x5).f6, true))) else (stockaderef02_Find.l0 k x4 (wrap64 (x5 + 1)) x334000 x334001 x334002 x334003 x334004)) else (if ((rd_T82 x4 x5).f5) = 4 then (if (wrap64 (x334004)) = ((rd_T82 x4 x5).f6) then (some ((rd_T82 x4 x5).f0, (rd_T82 x4 x5).f1.f0, (rd_T82 x4 x5).f1.f1, (rd_T82 x4 x5).f1.f2, (rd_T82 x4 x5).f1.f3, (rd_T82 x4 x5).f1.f4, (rd_T82 x4 x5).f2, (rd_T82 x4 x5).f3, (rd_T82 x4 x5).f4, (rd_T82 x4 x5).f5, (rd_T82 x4 x5).f6, true)) else (stockaderef02_Find.l0 k x4 (wrap64 (x5 + 1)) x334000 x334001 x334002 x334003 x334004)) else (some ((rd_T82 x4 x5).f0, (rd_T82 x4 x5).f1.f0, (rd_T82 x4 x5).f1.f1, (rd_T82 x4 x5).f1.f2, (rd_T82 x4 x5).f1.f3, (rd_T82 x4 x5).f1.f4, (rd_T82 x4 x5).f2, (rd_T82 x4 x5).f3, (rd_T82 x4 x5).f4, (rd_T82 x4 x5).f5, (rd_T82 x4 x5).f6, true)))) else (stockaderef02_Find.l0 k x4 (wrap64 (x5 + 1)) x334000 x334001 x334002 x334003 x334004)) else (none)) else (some (0, 0, 0, 0, false, false, 0, 0, 0, 0, 0, false))
def stockaderef02_Find.f (k : Nat) (a0_0 : Int) (a0_1 : Int) (a0_2 : Int) (a0_3 : Int) (a0_4 : Int) : Option (Int × Int × Int × Int × Bool × Bool × Int × Int × Int × Int × Int × Bool) := (stockaderef02_Rows.f k).bind fun t335 => (stockaderef02_Find.l0 k t335 0 a0_0 a0_1 a0_2 a0_3 a0_4)
theorem stockaderef02_Find.mono_l : ∀ k, (∀ y0 y1 y2 y3 y4 y5 y6, LeO (stockaderef02_Find.l0 k y0 y1 y2 y3 y4 y5 y6) (stockaderef02_Find.l0 (k + 1) y0 y1 y2 y3 y4 y5 y6))
 | 0 => fun _ _ _ _ _ _ _ r h => by simp [stockaderef02_Find.l0] at h
 | k + 1 => by
  have ih0 := stockaderef02_Find.mono_l k
  ·intro y0 y1 y2 y3 y4 y5 y6
   unfold stockaderef02_Find.l0
   repeat' first
   | (with_reducible exact ih0 _ _ _ _ _ _ _)
   | (with_reducible exact stockaderef02_Rows.mono _)
   | (with_reducible exact LeO.refl _)
   | (with_reducible exact LeO.none _)
   | (with_reducible refine LeO.ite ?_ ?_)
   | (with_reducible refine LeO.bind ?_ (fun _ => ?_))
   | exact ih0 _ _ _ _ _ _ _
   | exact stockaderef02_Rows.mono _
   | exact LeO.none _
   | refine LeO.ite ?_ ?_
   | refine LeO.bind ?_ (fun _ => ?_)
theorem stockaderef02_Find.mono : ∀ a0 a1 a2 a3 a4 k, LeO (stockaderef02_Find.f k a0 a1 a2 a3 a4) (stockaderef02_Find.f (k + 1) a0 a1 a2 a3 a4) := by
 intro a0 a1 a2 a3 a4 k
 have ih0 := stockaderef02_Find.mono_l k
 unfold stockaderef02_Find.f
 repeat' first
   | (with_reducible exact ih0 _ _ _ _ _ _ _)
   | (with_reducible exact stockaderef02_Rows.mono _)
   | (with_reducible exact LeO.refl _)
   | (with_reducible exact LeO.none _)
   | (with_reducible refine LeO.ite ?_ ?_)
   | (with_reducible refine LeO.bind ?_ (fun _ => ?_))
   | exact ih0 _ _ _ _ _ _ _
   | exact stockaderef02_Rows.mono _
   | exact LeO.none _
   | refine LeO.ite ?_ ?_
   | refine LeO.bind ?_ (fun _ => ?_)
set_option maxHeartbeats 8000000 in
set_option maxRecDepth 100000 in
theorem stockaderef02_Find.calls (k : Nat) (a0_0 : Int) (a0_1 : Int) (a0_2 : Int) (a0_3 : Int) (a0_4 : Int) (r1 : Int) (r2 : Int) (r3 : Int) (r4 : Int) (r5 : Bool) (r6 : Bool) (r7 : Int) (r8 : Int) (r9 : Int) (r10 : Int) (r11 : Int) (r12 : Bool) (w : World) (h : stockaderef02_Find.f k a0_0 a0_1 a0_2 a0_3 a0_4 = some (r1, r2, r3, r4, r5, r6, r7, r8, r9, r10, r11, r12)) :
  Calls Tryd.prog 48 #[.agg #[.int .u8 a0_0, .int .u8 a0_1, .int .u8 a0_2, .int .i16 a0_3, .int .i32 a0_4]] w fun e w' => e = .returned (.tuple #[.agg #[.int .u8 r1, .int .i64 r2, .int .i64 r3, .int .i64 r4, .bool r5, .bool r6, .int .i64 r7, .int .i64 r8, .int .i64 r9, .int .i64 r10, .int .i64 r11], .bool r12]) ∧ Below w.heap.size w w' := by
 have hu44 := Tryd.underlying44
 have hu82 := Tryd.underlying82
 have HB := Aside0.mk (Below.refl w.heap.size w)
 have H : ((stockaderef02_Rows.f k).bind fun t335 => (stockaderef02_Find.l0 k t335 0 a0_0 a0_1 a0_2 a0_3 a0_4)) = some (r1, r2, r3, r4, r5, r6, r7, r8, r9, r10, r11, r12) := h
 clear h
 replace H := Option.bind_eq_some_iff.mp H; obtain ⟨t335, A20, H⟩ := H; try dsimp only at H
 have A2 := Aside0.mk A20
 clear A20
 have H' := Aside0.mk H
 clear H
 go_enter Tryd.func48, Tryd.ntmps48
 go_wp2_with (first | ((with_reducible refine gate_dst (N := 1) rfl ?_); refine sh_box 1 #[.int .u8 a0_0, .int .u8 a0_1, .int .u8 a0_2, .int .i16 a0_3, .int .i32 a0_4] 44 ?_; intro gb333 hg w3 hbox hb; have GE333 := sh_z (w := w) hg; replace HB := sh_b (w := w) hb; have BK333 := Aside0.mk (hbox); clear hb hbox hg) | ((with_reducible refine gate_dst (N := 2) rfl ?_); refine sh_box 2 #[.int .u8 0, .int .i64 0, .int .i64 0, .int .i64 0, .bool false, .bool false, .int .i64 0, .int .i64 0, .int .i64 0, .int .i64 0, .int .i64 0] 82 ?_; intro gb334 hg w4 hbox hb; have GE334 := sh_z (w := w) hg; have NB333_334 := sh_n BK333 hg; have NB334_333 := sh_s NB333_334; replace BK333 := sh_k BK333 hb; replace HB := sh_b (w := w) hb; have BK334 := Aside0.mk (hbox); clear hb hbox hg) | (go_at_call 53; (with_reducible refine (stockaderef02_Rows.calls k  t335 _ A2.out).mono ?_); rintro e w5 ⟨v336, rfl, ho0, hb⟩; have HO337 := Aside0.mk (Kd.R_lower (Kd.R_newB ho0 (g := gb334) (o := .cells #[.int .u8 0, .int .i64 0, .int .i64 0, .int .i64 0, .bool false, .bool false, .int .i64 0, .int .i64 0, .int .i64 0, .int .i64 0, .int .i64 0] 82 (0, 0)) bk_now) (below_size b_now)); replace BK333 := sh_k BK333 hb; replace BK334 := sh_k BK334 hb; replace HB := sh_b (w := w) hb; (try clear hb); (try clear hb2); (try clear hk); (try clear hi); (try clear ho0)))
 repeat (go_quiet (first | ((with_reducible refine gate_dst (N := 1) rfl ?_); refine sh_box 1 #[.int .u8 a0_0, .int .u8 a0_1, .int .u8 a0_2, .int .i16 a0_3, .int .i32 a0_4] 44 ?_; intro gb333 hg w3 hbox hb; have GE333 := sh_z (w := w) hg; replace HB := sh_b (w := w) hb; have BK333 := Aside0.mk (hbox); clear hb hbox hg) | ((with_reducible refine gate_dst (N := 2) rfl ?_); refine sh_box 2 #[.int .u8 0, .int .i64 0, .int .i64 0, .int .i64 0, .bool false, .bool false, .int .i64 0, .int .i64 0, .int .i64 0, .int .i64 0, .int .i64 0] 82 ?_; intro gb334 hg w4 hbox hb; have GE334 := sh_z (w := w) hg; have NB333_334 := sh_n BK333 hg; have NB334_333 := sh_s NB333_334; replace BK333 := sh_k BK333 hb; replace HB := sh_b (w := w) hb; have BK334 := Aside0.mk (hbox); clear hb hbox hg) | (go_at_call 53; (with_reducible refine (stockaderef02_Rows.calls k  t335 _ A2.out).mono ?_); rintro e w5 ⟨v336, rfl, ho0, hb⟩; have HO337 := Aside0.mk (Kd.R_lower (Kd.R_newB ho0 (g := gb334) (o := .cells #[.int .u8 0, .int .i64 0, .int .i64 0, .int .i64 0, .bool false, .bool false, .int .i64 0, .int .i64 0, .int .i64 0, .int .i64 0, .int .i64 0] 82 (0, 0)) bk_now) (below_size b_now)); replace BK333 := sh_k BK333 hb; replace BK334 := sh_k BK334 hb; replace HB := sh_b (w := w) hb; (try clear hb); (try clear hb2); (try clear hk); (try clear hi); (try clear ho0))); try go_wp2_with (first | ((with_reducible refine gate_dst (N := 1) rfl ?_); refine sh_box 1 #[.int .u8 a0_0, .int .u8 a0_1, .int .u8 a0_2, .int .i16 a0_3, .int .i32 a0_4] 44 ?_; intro gb333 hg w3 hbox hb; have GE333 := sh_z (w := w) hg; replace HB := sh_b (w := w) hb; have BK333 := Aside0.mk (hbox); clear hb hbox hg) | ((with_reducible refine gate_dst (N := 2) rfl ?_); refine sh_box 2 #[.int .u8 0, .int .i64 0, .int .i64 0, .int .i64 0, .bool false, .bool false, .int .i64 0, .int .i64 0, .int .i64 0, .int .i64 0, .int .i64 0] 82 ?_; intro gb334 hg w4 hbox hb; have GE334 := sh_z (w := w) hg; have NB333_334 := sh_n BK333 hg; have NB334_333 := sh_s NB333_334; replace BK333 := sh_k BK333 hb; replace HB := sh_b (w := w) hb; have BK334 := Aside0.mk (hbox); clear hb hbox hg) | (go_at_call 53; (with_reducible refine (stockaderef02_Rows.calls k  t335 _ A2.out).mono ?_); rintro e w5 ⟨v336, rfl, ho0, hb⟩; have HO337 := Aside0.mk (Kd.R_lower (Kd.R_newB ho0 (g := gb334) (o := .cells #[.int .u8 0, .int .i64 0, .int .i64 0, .int .i64 0, .bool false, .bool false, .int .i64 0, .int .i64 0, .int .i64 0, .int .i64 0, .int .i64 0] 82 (0, 0)) bk_now) (below_size b_now)); replace BK333 := sh_k BK333 hb; replace BK334 := sh_k BK334 hb; replace HB := sh_b (w := w) hb; (try clear hb); (try clear hb2); (try clear hk); (try clear hi); (try clear ho0))))
 go_loopg [5] k (fun kq v5 w' => ∃ (x5_1 : Int) (x335000_1 : Int) (x335001_1 : Int) (x335002_1 : Int) (x335003_1 : Int) (x335004_1 : Bool) (x335005_1 : Bool) (x335006_1 : Int) (x335007_1 : Int) (x335008_1 : Int) (x335009_1 : Int) (x335010_1 : Int), v5 = .int .i64 x5_1 ∧ Aside0 (stockaderef02_Find.l0 kq t335 x5_1 a0_0 a0_1 a0_2 a0_3 a0_4 = some (r1, r2, r3, r4, r5, r6, r7, r8, r9, r10, r11, r12)) ∧ Aside0 (kq ≤ k) ∧ Aside0 (Kd.R k82 82 w' w.heap.size (fun k_ => k_ ≠ gb334) v336 t335) ∧ Aside0 (w'.heap[gb333]? = some (.cells #[.int .u8 a0_0, .int .u8 a0_1, .int .u8 a0_2, .int .i16 a0_3, .int .i32 a0_4] 44 (0, 0))) ∧ Aside0 (w'.heap[gb334]? = some (.cells #[.int .u8 x335000_1, .int .i64 x335001_1, .int .i64 x335002_1, .int .i64 x335003_1, .bool x335004_1, .bool x335005_1, .int .i64 x335006_1, .int .i64 x335007_1, .int .i64 x335008_1, .int .i64 x335009_1, .int .i64 x335010_1] 82 (0, 0))) ∧ Aside0 (Below w.heap.size w w'))
 case atStart => exact ⟨(0), (0), (0), (0), (0), (false), (false), (0), (0), (0), (0), (0), eq_now, H', ⟨Nat.le_refl _⟩, ⟨by (with_reducible repeat (first | apply Kd.R_alloc | apply Kd.R_drewN | apply Kd.R_drew)); exact Kd.R_mono HO337.out (fun _ hk => hk.2)⟩, ⟨bk_now⟩, ⟨bk_now⟩, ⟨b_now⟩⟩
 case round =>
  clear H'
  try clear p2
  try clear c4
  obtain ⟨x5_1, x335000_1, x335001_1, x335002_1, x335003_1, x335004_1, x335005_1, x335006_1, x335007_1, x335008_1, x335009_1, x335010_1, rfl, HA, HK1, HO_4, BK333, BK334, HB⟩ := hrel
  cases gk with
  | zero => exact absurd HA.out (by simp [stockaderef02_Find.l0])
  | succ k1 =>
   have H := HA.out
   clear HA
   simp only [stockaderef02_Find.l0] at H
   by_cases c6 : x5_1 < (t335.length : Int)
   ·rw [if_pos c6] at H
    have c6b0 : decide (x5_1 < (t335.length : Int)) = true := decide_eq_true c6
    clear c6
    by_cases c7 : 0 ≤ x5_1
    ·rw [if_pos c7] at H
     have c7b0 : decide (0 ≤ x5_1) = true := decide_eq_true c7
     clear c7
     by_cases c8 : ((rd_T82 t335 x5_1).f0) = a0_0
     ·rw [if_pos c8] at H
      have c8b0 : (((rd_T82 t335 x5_1).f0) == a0_0) = true := beq_iff_eq.mpr c8
      have c8b1 : (((rd_T82 t335 x5_1).f0) != a0_0) = false := bne_eq_false_iff_eq.mpr c8
      clear c8
      by_cases c9 : ((rd_T82 t335 x5_1).f3) = 4
      ·rw [if_pos c9] at H
       have c9b0 : (((rd_T82 t335 x5_1).f3) == 4) = true := beq_iff_eq.mpr c9
       have c9b1 : (((rd_T82 t335 x5_1).f3) != 4) = false := bne_eq_false_iff_eq.mpr c9
       clear c9
       by_cases c10 : (wrap64 (a0_2)) = ((rd_T82 t335 x5_1).f6)
       ·rw [if_pos c10] at H
        have c10b0 : ((wrap64 (a0_2)) == ((rd_T82 t335 x5_1).f6)) = true := beq_iff_eq.mpr c10
        have c10b1 : ((wrap64 (a0_2)) != ((rd_T82 t335 x5_1).f6)) = false := bne_eq_false_iff_eq.mpr c10
        clear c10
        by_cases c11 : ((rd_T82 t335 x5_1).f5) = 4
        ·rw [if_pos c11] at H
         have c11b0 : (((rd_T82 t335 x5_1).f5) == 4) = true := beq_iff_eq.mpr c11
         have c11b1 : (((rd_T82 t335 x5_1).f5) != 4) = false := bne_eq_false_iff_eq.mpr c11
         clear c11
         by_cases c12 : (wrap64 (a0_4)) = ((rd_T82 t335 x5_1).f6)
         ·rw [if_pos c12] at H
          have c12b0 : ((wrap64 (a0_4)) == ((rd_T82 t335 x5_1).f6)) = true := beq_iff_eq.mpr c12
          have c12b1 : ((wrap64 (a0_4)) != ((rd_T82 t335 x5_1).f6)) = false := bne_eq_false_iff_eq.mpr c12
          clear c12
          simp only [Option.some.injEq, Prod.mk.injEq] at H
          obtain ⟨rfl, rfl, rfl, rfl, rfl, rfl, rfl, rfl, rfl, rfl, rfl, rfl⟩ := H
          obtain ⟨Ao13, co13, eo13⟩ := Kd.R_slice HO_4.out
          subst eo13
          have p338 : 0 ≤ (x5_1 : Int) := of_decide_eq_true (by first | (with_reducible assumption) | assumption)
          have q338 : x5_1 < (t335.length : Int) := of_decide_eq_true (by first | (with_reducible assumption) | assumption)
          obtain ⟨ad338, e338, hx338_0, hx338_1, hx338_2, hx338_3, hx338_4, hx338_5, hx338_6, hx338_7, hx338_8, hx338_9, hx338_10⟩ := at_T82 (Kd.R_reads' HO_4.out).2.2 x5_1 p338 q338
          cases e338
          replace p338 := eq_true p338
          replace q338 := eq_true q338
          have hnb14 := NB333_334.out
          have hnc14 := NB334_333.out
          have hcz15 := blk_all5 BK333.out
          have p339 : 0 ≤ (x5_1 : Int) := of_decide_eq_true (by first | (with_reducible assumption) | assumption)
          have q339 : x5_1 < (t335.length : Int) := of_decide_eq_true (by first | (with_reducible assumption) | assumption)
          obtain ⟨ad339, e339, hx339_0, hx339_1, hx339_2, hx339_3, hx339_4, hx339_5, hx339_6, hx339_7, hx339_8, hx339_9, hx339_10⟩ := at_T82 (Kd.R_reads' HO_4.out).2.2 x5_1 p339 q339
          obtain rfl : ad338 = ad339 := (by injection e339)
          replace p339 := eq_true p339
          replace q339 := eq_true q339
          have p340 : 0 ≤ (x5_1 : Int) := of_decide_eq_true (by first | (with_reducible assumption) | assumption)
          have q340 : x5_1 < (t335.length : Int) := of_decide_eq_true (by first | (with_reducible assumption) | assumption)
          obtain ⟨ad340, e340, hx340_0, hx340_1, hx340_2, hx340_3, hx340_4, hx340_5, hx340_6, hx340_7, hx340_8, hx340_9, hx340_10⟩ := at_T82 (Kd.R_reads' HO_4.out).2.2 x5_1 p340 q340
          obtain rfl : ad338 = ad340 := (by injection e340)
          replace p340 := eq_true p340
          replace q340 := eq_true q340
          have p341 : 0 ≤ (x5_1 : Int) := of_decide_eq_true (by first | (with_reducible assumption) | assumption)
          have q341 : x5_1 < (t335.length : Int) := of_decide_eq_true (by first | (with_reducible assumption) | assumption)
          obtain ⟨ad341, e341, hx341_0, hx341_1, hx341_2, hx341_3, hx341_4, hx341_5, hx341_6, hx341_7, hx341_8, hx341_9, hx341_10⟩ := at_T82 (Kd.R_reads' HO_4.out).2.2 x5_1 p341 q341
          obtain rfl : ad338 = ad341 := (by injection e341)
          replace p341 := eq_true p341
          replace q341 := eq_true q341
          have p342 : 0 ≤ (x5_1 : Int) := of_decide_eq_true (by first | (with_reducible assumption) | assumption)
          have q342 : x5_1 < (t335.length : Int) := of_decide_eq_true (by first | (with_reducible assumption) | assumption)
          obtain ⟨ad342, e342, hx342_0, hx342_1, hx342_2, hx342_3, hx342_4, hx342_5, hx342_6, hx342_7, hx342_8, hx342_9, hx342_10⟩ := at_T82 (Kd.R_reads' HO_4.out).2.2 x5_1 p342 q342
          obtain rfl : ad338 = ad342 := (by injection e342)
          replace p342 := eq_true p342
          replace q342 := eq_true q342
          have p343 : 0 ≤ (x5_1 : Int) := of_decide_eq_true (by first | (with_reducible assumption) | assumption)
          have q343 : x5_1 < (t335.length : Int) := of_decide_eq_true (by first | (with_reducible assumption) | assumption)
          obtain ⟨ad343, e343, hx343_0, hx343_1, hx343_2, hx343_3, hx343_4, hx343_5, hx343_6, hx343_7, hx343_8, hx343_9, hx343_10⟩ := at_T82 (Kd.R_reads' HO_4.out).2.2 x5_1 p343 q343
          obtain rfl : ad338 = ad343 := (by injection e343)
          replace p343 := eq_true p343
          replace q343 := eq_true q343
          have hcz16 := blk_all11 BK334.out
          go_wp2
          repeat (go_quiet (fail); try go_wp2)
          refine bodyPost_ret (results_ct rfl _ _ gb334 82 #[.int .u8 ((rd_T82 t335 x5_1).f0), .int .i64 ((rd_T82 t335 x5_1).f1.f0), .int .i64 ((rd_T82 t335 x5_1).f1.f1), .int .i64 ((rd_T82 t335 x5_1).f1.f2), .bool ((rd_T82 t335 x5_1).f1.f3), .bool ((rd_T82 t335 x5_1).f1.f4), .int .i64 ((rd_T82 t335 x5_1).f2), .int .i64 ((rd_T82 t335 x5_1).f3), .int .i64 ((rd_T82 t335 x5_1).f4), .int .i64 ((rd_T82 t335 x5_1).f5), .int .i64 ((rd_T82 t335 x5_1).f6)] (0, 0) _ rfl bk_now Tryd.underlying82 rfl (by kernel_rfl)) rfl ?_
          exact ⟨ret_now, b_now⟩
         ·rw [if_neg c12] at H
          have c12b0 : ((wrap64 (a0_4)) == ((rd_T82 t335 x5_1).f6)) = false := beq_eq_false_iff_ne.mpr c12
          have c12b1 : ((wrap64 (a0_4)) != ((rd_T82 t335 x5_1).f6)) = true := bne_iff_ne.mpr c12
          have H' := Aside0.mk H
          clear H
          obtain ⟨Ao17, co17, eo17⟩ := Kd.R_slice HO_4.out
          subst eo17
          have p338 : 0 ≤ (x5_1 : Int) := of_decide_eq_true (by first | (with_reducible assumption) | assumption)
          have q338 : x5_1 < (t335.length : Int) := of_decide_eq_true (by first | (with_reducible assumption) | assumption)
          obtain ⟨ad338, e338, hx338_0, hx338_1, hx338_2, hx338_3, hx338_4, hx338_5, hx338_6, hx338_7, hx338_8, hx338_9, hx338_10⟩ := at_T82 (Kd.R_reads' HO_4.out).2.2 x5_1 p338 q338
          cases e338
          replace p338 := eq_true p338
          replace q338 := eq_true q338
          have hnb18 := NB333_334.out
          have hnc18 := NB334_333.out
          have hcz19 := blk_all5 BK333.out
          have p339 : 0 ≤ (x5_1 : Int) := of_decide_eq_true (by first | (with_reducible assumption) | assumption)
          have q339 : x5_1 < (t335.length : Int) := of_decide_eq_true (by first | (with_reducible assumption) | assumption)
          obtain ⟨ad339, e339, hx339_0, hx339_1, hx339_2, hx339_3, hx339_4, hx339_5, hx339_6, hx339_7, hx339_8, hx339_9, hx339_10⟩ := at_T82 (Kd.R_reads' HO_4.out).2.2 x5_1 p339 q339
          obtain rfl : ad338 = ad339 := (by injection e339)
          replace p339 := eq_true p339
          replace q339 := eq_true q339
          have p340 : 0 ≤ (x5_1 : Int) := of_decide_eq_true (by first | (with_reducible assumption) | assumption)
          have q340 : x5_1 < (t335.length : Int) := of_decide_eq_true (by first | (with_reducible assumption) | assumption)
          obtain ⟨ad340, e340, hx340_0, hx340_1, hx340_2, hx340_3, hx340_4, hx340_5, hx340_6, hx340_7, hx340_8, hx340_9, hx340_10⟩ := at_T82 (Kd.R_reads' HO_4.out).2.2 x5_1 p340 q340
          obtain rfl : ad338 = ad340 := (by injection e340)
          replace p340 := eq_true p340
          replace q340 := eq_true q340
          have p341 : 0 ≤ (x5_1 : Int) := of_decide_eq_true (by first | (with_reducible assumption) | assumption)
          have q341 : x5_1 < (t335.length : Int) := of_decide_eq_true (by first | (with_reducible assumption) | assumption)
          obtain ⟨ad341, e341, hx341_0, hx341_1, hx341_2, hx341_3, hx341_4, hx341_5, hx341_6, hx341_7, hx341_8, hx341_9, hx341_10⟩ := at_T82 (Kd.R_reads' HO_4.out).2.2 x5_1 p341 q341
          obtain rfl : ad338 = ad341 := (by injection e341)
          replace p341 := eq_true p341
          replace q341 := eq_true q341
          have p342 : 0 ≤ (x5_1 : Int) := of_decide_eq_true (by first | (with_reducible assumption) | assumption)
          have q342 : x5_1 < (t335.length : Int) := of_decide_eq_true (by first | (with_reducible assumption) | assumption)
          obtain ⟨ad342, e342, hx342_0, hx342_1, hx342_2, hx342_3, hx342_4, hx342_5, hx342_6, hx342_7, hx342_8, hx342_9, hx342_10⟩ := at_T82 (Kd.R_reads' HO_4.out).2.2 x5_1 p342 q342
          obtain rfl : ad338 = ad342 := (by injection e342)
          replace p342 := eq_true p342
          replace q342 := eq_true q342
          go_wp2
          repeat (go_quiet (fail); try go_wp2)
          go_roundg k1
          case measure => have := HK1.out; omega
          case rel => exact ⟨(wrap64 (x5_1 + 1)), (x335000_1), (x335001_1), (x335002_1), (x335003_1), (x335004_1), (x335005_1), (x335006_1), (x335007_1), (x335008_1), (x335009_1), (x335010_1), eq_now, H', ⟨by have := HK1.out; omega⟩, ⟨by (with_reducible repeat (first | apply Kd.R_alloc | apply Kd.R_drewN | apply Kd.R_drew)); exact HO_4.out⟩, ⟨bk_now⟩, ⟨bk_now⟩, ⟨b_now⟩⟩
        ·rw [if_neg c11] at H
         have c11b0 : (((rd_T82 t335 x5_1).f5) == 4) = false := beq_eq_false_iff_ne.mpr c11
         have c11b1 : (((rd_T82 t335 x5_1).f5) != 4) = true := bne_iff_ne.mpr c11
         simp only [Option.some.injEq, Prod.mk.injEq] at H
         obtain ⟨rfl, rfl, rfl, rfl, rfl, rfl, rfl, rfl, rfl, rfl, rfl, rfl⟩ := H
         obtain ⟨Ao20, co20, eo20⟩ := Kd.R_slice HO_4.out
         subst eo20
         have p338 : 0 ≤ (x5_1 : Int) := of_decide_eq_true (by first | (with_reducible assumption) | assumption)
         have q338 : x5_1 < (t335.length : Int) := of_decide_eq_true (by first | (with_reducible assumption) | assumption)
         obtain ⟨ad338, e338, hx338_0, hx338_1, hx338_2, hx338_3, hx338_4, hx338_5, hx338_6, hx338_7, hx338_8, hx338_9, hx338_10⟩ := at_T82 (Kd.R_reads' HO_4.out).2.2 x5_1 p338 q338
         cases e338
         replace p338 := eq_true p338
         replace q338 := eq_true q338
         have hnb21 := NB333_334.out
         have hnc21 := NB334_333.out
         have hcz22 := blk_all5 BK333.out
         have p339 : 0 ≤ (x5_1 : Int) := of_decide_eq_true (by first | (with_reducible assumption) | assumption)
         have q339 : x5_1 < (t335.length : Int) := of_decide_eq_true (by first | (with_reducible assumption) | assumption)
         obtain ⟨ad339, e339, hx339_0, hx339_1, hx339_2, hx339_3, hx339_4, hx339_5, hx339_6, hx339_7, hx339_8, hx339_9, hx339_10⟩ := at_T82 (Kd.R_reads' HO_4.out).2.2 x5_1 p339 q339
         obtain rfl : ad338 = ad339 := (by injection e339)
         replace p339 := eq_true p339
         replace q339 := eq_true q339
         have p340 : 0 ≤ (x5_1 : Int) := of_decide_eq_true (by first | (with_reducible assumption) | assumption)
         have q340 : x5_1 < (t335.length : Int) := of_decide_eq_true (by first | (with_reducible assumption) | assumption)
         obtain ⟨ad340, e340, hx340_0, hx340_1, hx340_2, hx340_3, hx340_4, hx340_5, hx340_6, hx340_7, hx340_8, hx340_9, hx340_10⟩ := at_T82 (Kd.R_reads' HO_4.out).2.2 x5_1 p340 q340
         obtain rfl : ad338 = ad340 := (by injection e340)
         replace p340 := eq_true p340
         replace q340 := eq_true q340
         have p341 : 0 ≤ (x5_1 : Int) := of_decide_eq_true (by first | (with_reducible assumption) | assumption)
         have q341 : x5_1 < (t335.length : Int) := of_decide_eq_true (by first | (with_reducible assumption) | assumption)
         obtain ⟨ad341, e341, hx341_0, hx341_1, hx341_2, hx341_3, hx341_4, hx341_5, hx341_6, hx341_7, hx341_8, hx341_9, hx341_10⟩ := at_T82 (Kd.R_reads' HO_4.out).2.2 x5_1 p341 q341
         obtain rfl : ad338 = ad341 := (by injection e341)
         replace p341 := eq_true p341
         replace q341 := eq_true q341
         have p344 : 0 ≤ (x5_1 : Int) := of_decide_eq_true (by first | (with_reducible assumption) | assumption)
         have q344 : x5_1 < (t335.length : Int) := of_decide_eq_true (by first | (with_reducible assumption) | assumption)
         obtain ⟨ad344, e344, hx344_0, hx344_1, hx344_2, hx344_3, hx344_4, hx344_5, hx344_6, hx344_7, hx344_8, hx344_9, hx344_10⟩ := at_T82 (Kd.R_reads' HO_4.out).2.2 x5_1 p344 q344
         obtain rfl : ad338 = ad344 := (by injection e344)
         replace p344 := eq_true p344
         replace q344 := eq_true q344
         have hcz23 := blk_all11 BK334.out
         go_wp2
         repeat (go_quiet (fail); try go_wp2)
         refine bodyPost_ret (results_ct rfl _ _ gb334 82 #[.int .u8 ((rd_T82 t335 x5_1).f0), .int .i64 ((rd_T82 t335 x5_1).f1.f0), .int .i64 ((rd_T82 t335 x5_1).f1.f1), .int .i64 ((rd_T82 t335 x5_1).f1.f2), .bool ((rd_T82 t335 x5_1).f1.f3), .bool ((rd_T82 t335 x5_1).f1.f4), .int .i64 ((rd_T82 t335 x5_1).f2), .int .i64 ((rd_T82 t335 x5_1).f3), .int .i64 ((rd_T82 t335 x5_1).f4), .int .i64 ((rd_T82 t335 x5_1).f5), .int .i64 ((rd_T82 t335 x5_1).f6)] (0, 0) _ rfl bk_now Tryd.underlying82 rfl (by kernel_rfl)) rfl ?_
         exact ⟨ret_now, b_now⟩
       ·rw [if_neg c10] at H
        have c10b0 : ((wrap64 (a0_2)) == ((rd_T82 t335 x5_1).f6)) = false := beq_eq_false_iff_ne.mpr c10
        have c10b1 : ((wrap64 (a0_2)) != ((rd_T82 t335 x5_1).f6)) = true := bne_iff_ne.mpr c10
        have H' := Aside0.mk H
        clear H
        obtain ⟨Ao24, co24, eo24⟩ := Kd.R_slice HO_4.out
        subst eo24
        have p338 : 0 ≤ (x5_1 : Int) := of_decide_eq_true (by first | (with_reducible assumption) | assumption)
        have q338 : x5_1 < (t335.length : Int) := of_decide_eq_true (by first | (with_reducible assumption) | assumption)
        obtain ⟨ad338, e338, hx338_0, hx338_1, hx338_2, hx338_3, hx338_4, hx338_5, hx338_6, hx338_7, hx338_8, hx338_9, hx338_10⟩ := at_T82 (Kd.R_reads' HO_4.out).2.2 x5_1 p338 q338
        cases e338
        replace p338 := eq_true p338
        replace q338 := eq_true q338
        have hnb25 := NB333_334.out
        have hnc25 := NB334_333.out
        have hcz26 := blk_all5 BK333.out
        have p339 : 0 ≤ (x5_1 : Int) := of_decide_eq_true (by first | (with_reducible assumption) | assumption)
        have q339 : x5_1 < (t335.length : Int) := of_decide_eq_true (by first | (with_reducible assumption) | assumption)
        obtain ⟨ad339, e339, hx339_0, hx339_1, hx339_2, hx339_3, hx339_4, hx339_5, hx339_6, hx339_7, hx339_8, hx339_9, hx339_10⟩ := at_T82 (Kd.R_reads' HO_4.out).2.2 x5_1 p339 q339
        obtain rfl : ad338 = ad339 := (by injection e339)
        replace p339 := eq_true p339
        replace q339 := eq_true q339
        have p340 : 0 ≤ (x5_1 : Int) := of_decide_eq_true (by first | (with_reducible assumption) | assumption)
        have q340 : x5_1 < (t335.length : Int) := of_decide_eq_true (by first | (with_reducible assumption) | assumption)
        obtain ⟨ad340, e340, hx340_0, hx340_1, hx340_2, hx340_3, hx340_4, hx340_5, hx340_6, hx340_7, hx340_8, hx340_9, hx340_10⟩ := at_T82 (Kd.R_reads' HO_4.out).2.2 x5_1 p340 q340
        obtain rfl : ad338 = ad340 := (by injection e340)
        replace p340 := eq_true p340
        replace q340 := eq_true q340
        go_wp2
        repeat (go_quiet (fail); try go_wp2)
        go_roundg k1
        case measure => have := HK1.out; omega
        case rel => exact ⟨(wrap64 (x5_1 + 1)), (x335000_1), (x335001_1), (x335002_1), (x335003_1), (x335004_1), (x335005_1), (x335006_1), (x335007_1), (x335008_1), (x335009_1), (x335010_1), eq_now, H', ⟨by have := HK1.out; omega⟩, ⟨by (with_reducible repeat (first | apply Kd.R_alloc | apply Kd.R_drewN | apply Kd.R_drew)); exact HO_4.out⟩, ⟨bk_now⟩, ⟨bk_now⟩, ⟨b_now⟩⟩
      ·rw [if_neg c9] at H
       have c9b0 : (((rd_T82 t335 x5_1).f3) == 4) = false := beq_eq_false_iff_ne.mpr c9
       have c9b1 : (((rd_T82 t335 x5_1).f3) != 4) = true := bne_iff_ne.mpr c9
       by_cases c27 : ((rd_T82 t335 x5_1).f5) = 4
       ·rw [if_pos c27] at H
        have c27b0 : (((rd_T82 t335 x5_1).f5) == 4) = true := beq_iff_eq.mpr c27
        have c27b1 : (((rd_T82 t335 x5_1).f5) != 4) = false := bne_eq_false_iff_eq.mpr c27
        clear c27
        by_cases c28 : (wrap64 (a0_4)) = ((rd_T82 t335 x5_1).f6)
        ·rw [if_pos c28] at H
         have c28b0 : ((wrap64 (a0_4)) == ((rd_T82 t335 x5_1).f6)) = true := beq_iff_eq.mpr c28
         have c28b1 : ((wrap64 (a0_4)) != ((rd_T82 t335 x5_1).f6)) = false := bne_eq_false_iff_eq.mpr c28
         clear c28
         simp only [Option.some.injEq, Prod.mk.injEq] at H
         obtain ⟨rfl, rfl, rfl, rfl, rfl, rfl, rfl, rfl, rfl, rfl, rfl, rfl⟩ := H
         obtain ⟨Ao29, co29, eo29⟩ := Kd.R_slice HO_4.out
         subst eo29
         have p338 : 0 ≤ (x5_1 : Int) := of_decide_eq_true (by first | (with_reducible assumption) | assumption)
         have q338 : x5_1 < (t335.length : Int) := of_decide_eq_true (by first | (with_reducible assumption) | assumption)
         obtain ⟨ad338, e338, hx338_0, hx338_1, hx338_2, hx338_3, hx338_4, hx338_5, hx338_6, hx338_7, hx338_8, hx338_9, hx338_10⟩ := at_T82 (Kd.R_reads' HO_4.out).2.2 x5_1 p338 q338
         cases e338
         replace p338 := eq_true p338
         replace q338 := eq_true q338
         have hnb30 := NB333_334.out
         have hnc30 := NB334_333.out
         have hcz31 := blk_all5 BK333.out
         have p339 : 0 ≤ (x5_1 : Int) := of_decide_eq_true (by first | (with_reducible assumption) | assumption)
         have q339 : x5_1 < (t335.length : Int) := of_decide_eq_true (by first | (with_reducible assumption) | assumption)
         obtain ⟨ad339, e339, hx339_0, hx339_1, hx339_2, hx339_3, hx339_4, hx339_5, hx339_6, hx339_7, hx339_8, hx339_9, hx339_10⟩ := at_T82 (Kd.R_reads' HO_4.out).2.2 x5_1 p339 q339
         obtain rfl : ad338 = ad339 := (by injection e339)
         replace p339 := eq_true p339
         replace q339 := eq_true q339
         have p345 : 0 ≤ (x5_1 : Int) := of_decide_eq_true (by first | (with_reducible assumption) | assumption)
         have q345 : x5_1 < (t335.length : Int) := of_decide_eq_true (by first | (with_reducible assumption) | assumption)
         obtain ⟨ad345, e345, hx345_0, hx345_1, hx345_2, hx345_3, hx345_4, hx345_5, hx345_6, hx345_7, hx345_8, hx345_9, hx345_10⟩ := at_T82 (Kd.R_reads' HO_4.out).2.2 x5_1 p345 q345
         obtain rfl : ad338 = ad345 := (by injection e345)
         replace p345 := eq_true p345
         replace q345 := eq_true q345
         have p346 : 0 ≤ (x5_1 : Int) := of_decide_eq_true (by first | (with_reducible assumption) | assumption)
         have q346 : x5_1 < (t335.length : Int) := of_decide_eq_true (by first | (with_reducible assumption) | assumption)
         obtain ⟨ad346, e346, hx346_0, hx346_1, hx346_2, hx346_3, hx346_4, hx346_5, hx346_6, hx346_7, hx346_8, hx346_9, hx346_10⟩ := at_T82 (Kd.R_reads' HO_4.out).2.2 x5_1 p346 q346
         obtain rfl : ad338 = ad346 := (by injection e346)
         replace p346 := eq_true p346
         replace q346 := eq_true q346
         have p347 : 0 ≤ (x5_1 : Int) := of_decide_eq_true (by first | (with_reducible assumption) | assumption)
         have q347 : x5_1 < (t335.length : Int) := of_decide_eq_true (by first | (with_reducible assumption) | assumption)
         obtain ⟨ad347, e347, hx347_0, hx347_1, hx347_2, hx347_3, hx347_4, hx347_5, hx347_6, hx347_7, hx347_8, hx347_9, hx347_10⟩ := at_T82 (Kd.R_reads' HO_4.out).2.2 x5_1 p347 q347
         obtain rfl : ad338 = ad347 := (by injection e347)
         replace p347 := eq_true p347
         replace q347 := eq_true q347
         have hcz32 := blk_all11 BK334.out
         go_wp2
         repeat (go_quiet (fail); try go_wp2)
         refine bodyPost_ret (results_ct rfl _ _ gb334 82 #[.int .u8 ((rd_T82 t335 x5_1).f0), .int .i64 ((rd_T82 t335 x5_1).f1.f0), .int .i64 ((rd_T82 t335 x5_1).f1.f1), .int .i64 ((rd_T82 t335 x5_1).f1.f2), .bool ((rd_T82 t335 x5_1).f1.f3), .bool ((rd_T82 t335 x5_1).f1.f4), .int .i64 ((rd_T82 t335 x5_1).f2), .int .i64 ((rd_T82 t335 x5_1).f3), .int .i64 ((rd_T82 t335 x5_1).f4), .int .i64 ((rd_T82 t335 x5_1).f5), .int .i64 ((rd_T82 t335 x5_1).f6)] (0, 0) _ rfl bk_now Tryd.underlying82 rfl (by kernel_rfl)) rfl ?_
         exact ⟨ret_now, b_now⟩
        ·rw [if_neg c28] at H
         have c28b0 : ((wrap64 (a0_4)) == ((rd_T82 t335 x5_1).f6)) = false := beq_eq_false_iff_ne.mpr c28
         have c28b1 : ((wrap64 (a0_4)) != ((rd_T82 t335 x5_1).f6)) = true := bne_iff_ne.mpr c28
         have H' := Aside0.mk H
         clear H
         obtain ⟨Ao33, co33, eo33⟩ := Kd.R_slice HO_4.out
         subst eo33
         have p338 : 0 ≤ (x5_1 : Int) := of_decide_eq_true (by first | (with_reducible assumption) | assumption)
         have q338 : x5_1 < (t335.length : Int) := of_decide_eq_true (by first | (with_reducible assumption) | assumption)
         obtain ⟨ad338, e338, hx338_0, hx338_1, hx338_2, hx338_3, hx338_4, hx338_5, hx338_6, hx338_7, hx338_8, hx338_9, hx338_10⟩ := at_T82 (Kd.R_reads' HO_4.out).2.2 x5_1 p338 q338
         cases e338
         replace p338 := eq_true p338
         replace q338 := eq_true q338
         have hnb34 := NB333_334.out
         have hnc34 := NB334_333.out
         have hcz35 := blk_all5 BK333.out
         have p339 : 0 ≤ (x5_1 : Int) := of_decide_eq_true (by first | (with_reducible assumption) | assumption)
         have q339 : x5_1 < (t335.length : Int) := of_decide_eq_true (by first | (with_reducible assumption) | assumption)
         obtain ⟨ad339, e339, hx339_0, hx339_1, hx339_2, hx339_3, hx339_4, hx339_5, hx339_6, hx339_7, hx339_8, hx339_9, hx339_10⟩ := at_T82 (Kd.R_reads' HO_4.out).2.2 x5_1 p339 q339
         obtain rfl : ad338 = ad339 := (by injection e339)
         replace p339 := eq_true p339
         replace q339 := eq_true q339
         have p345 : 0 ≤ (x5_1 : Int) := of_decide_eq_true (by first | (with_reducible assumption) | assumption)
         have q345 : x5_1 < (t335.length : Int) := of_decide_eq_true (by first | (with_reducible assumption) | assumption)
         obtain ⟨ad345, e345, hx345_0, hx345_1, hx345_2, hx345_3, hx345_4, hx345_5, hx345_6, hx345_7, hx345_8, hx345_9, hx345_10⟩ := at_T82 (Kd.R_reads' HO_4.out).2.2 x5_1 p345 q345
         obtain rfl : ad338 = ad345 := (by injection e345)
         replace p345 := eq_true p345
         replace q345 := eq_true q345
         have p346 : 0 ≤ (x5_1 : Int) := of_decide_eq_true (by first | (with_reducible assumption) | assumption)
         have q346 : x5_1 < (t335.length : Int) := of_decide_eq_true (by first | (with_reducible assumption) | assumption)
         obtain ⟨ad346, e346, hx346_0, hx346_1, hx346_2, hx346_3, hx346_4, hx346_5, hx346_6, hx346_7, hx346_8, hx346_9, hx346_10⟩ := at_T82 (Kd.R_reads' HO_4.out).2.2 x5_1 p346 q346
         obtain rfl : ad338 = ad346 := (by injection e346)
         replace p346 := eq_true p346
         replace q346 := eq_true q346
         go_wp2
         repeat (go_quiet (fail); try go_wp2)
         go_roundg k1
         case measure => have := HK1.out; omega
         case rel => exact ⟨(wrap64 (x5_1 + 1)), (x335000_1), (x335001_1), (x335002_1), (x335003_1), (x335004_1), (x335005_1), (x335006_1), (x335007_1), (x335008_1), (x335009_1), (x335010_1), eq_now, H', ⟨by have := HK1.out; omega⟩, ⟨by (with_reducible repeat (first | apply Kd.R_alloc | apply Kd.R_drewN | apply Kd.R_drew)); exact HO_4.out⟩, ⟨bk_now⟩, ⟨bk_now⟩, ⟨b_now⟩⟩
       ·rw [if_neg c27] at H
        have c27b0 : (((rd_T82 t335 x5_1).f5) == 4) = false := beq_eq_false_iff_ne.mpr c27
        have c27b1 : (((rd_T82 t335 x5_1).f5) != 4) = true := bne_iff_ne.mpr c27
        simp only [Option.some.injEq, Prod.mk.injEq] at H
        obtain ⟨rfl, rfl, rfl, rfl, rfl, rfl, rfl, rfl, rfl, rfl, rfl, rfl⟩ := H
        obtain ⟨Ao36, co36, eo36⟩ := Kd.R_slice HO_4.out
        subst eo36
        have p338 : 0 ≤ (x5_1 : Int) := of_decide_eq_true (by first | (with_reducible assumption) | assumption)
        have q338 : x5_1 < (t335.length : Int) := of_decide_eq_true (by first | (with_reducible assumption) | assumption)
        obtain ⟨ad338, e338, hx338_0, hx338_1, hx338_2, hx338_3, hx338_4, hx338_5, hx338_6, hx338_7, hx338_8, hx338_9, hx338_10⟩ := at_T82 (Kd.R_reads' HO_4.out).2.2 x5_1 p338 q338
        cases e338
        replace p338 := eq_true p338
        replace q338 := eq_true q338
        have hnb37 := NB333_334.out
        have hnc37 := NB334_333.out
        have hcz38 := blk_all5 BK333.out
        have p339 : 0 ≤ (x5_1 : Int) := of_decide_eq_true (by first | (with_reducible assumption) | assumption)
        have q339 : x5_1 < (t335.length : Int) := of_decide_eq_true (by first | (with_reducible assumption) | assumption)
        obtain ⟨ad339, e339, hx339_0, hx339_1, hx339_2, hx339_3, hx339_4, hx339_5, hx339_6, hx339_7, hx339_8, hx339_9, hx339_10⟩ := at_T82 (Kd.R_reads' HO_4.out).2.2 x5_1 p339 q339
        obtain rfl : ad338 = ad339 := (by injection e339)
        replace p339 := eq_true p339
        replace q339 := eq_true q339
        have p345 : 0 ≤ (x5_1 : Int) := of_decide_eq_true (by first | (with_reducible assumption) | assumption)
        have q345 : x5_1 < (t335.length : Int) := of_decide_eq_true (by first | (with_reducible assumption) | assumption)
        obtain ⟨ad345, e345, hx345_0, hx345_1, hx345_2, hx345_3, hx345_4, hx345_5, hx345_6, hx345_7, hx345_8, hx345_9, hx345_10⟩ := at_T82 (Kd.R_reads' HO_4.out).2.2 x5_1 p345 q345
        obtain rfl : ad338 = ad345 := (by injection e345)
        replace p345 := eq_true p345
        replace q345 := eq_true q345
        have p348 : 0 ≤ (x5_1 : Int) := of_decide_eq_true (by first | (with_reducible assumption) | assumption)
        have q348 : x5_1 < (t335.length : Int) := of_decide_eq_true (by first | (with_reducible assumption) | assumption)
        obtain ⟨ad348, e348, hx348_0, hx348_1, hx348_2, hx348_3, hx348_4, hx348_5, hx348_6, hx348_7, hx348_8, hx348_9, hx348_10⟩ := at_T82 (Kd.R_reads' HO_4.out).2.2 x5_1 p348 q348
        obtain rfl : ad338 = ad348 := (by injection e348)
        replace p348 := eq_true p348
        replace q348 := eq_true q348
        have hcz39 := blk_all11 BK334.out
        go_wp2
        repeat (go_quiet (fail); try go_wp2)
        refine bodyPost_ret (results_ct rfl _ _ gb334 82 #[.int .u8 ((rd_T82 t335 x5_1).f0), .int .i64 ((rd_T82 t335 x5_1).f1.f0), .int .i64 ((rd_T82 t335 x5_1).f1.f1), .int .i64 ((rd_T82 t335 x5_1).f1.f2), .bool ((rd_T82 t335 x5_1).f1.f3), .bool ((rd_T82 t335 x5_1).f1.f4), .int .i64 ((rd_T82 t335 x5_1).f2), .int .i64 ((rd_T82 t335 x5_1).f3), .int .i64 ((rd_T82 t335 x5_1).f4), .int .i64 ((rd_T82 t335 x5_1).f5), .int .i64 ((rd_T82 t335 x5_1).f6)] (0, 0) _ rfl bk_now Tryd.underlying82 rfl (by kernel_rfl)) rfl ?_
        exact ⟨ret_now, b_now⟩
     ·rw [if_neg c8] at H
      have c8b0 : (((rd_T82 t335 x5_1).f0) == a0_0) = false := beq_eq_false_iff_ne.mpr c8
      have c8b1 : (((rd_T82 t335 x5_1).f0) != a0_0) = true := bne_iff_ne.mpr c8
      have H' := Aside0.mk H
      clear H
      obtain ⟨Ao40, co40, eo40⟩ := Kd.R_slice HO_4.out
      subst eo40
      have p338 : 0 ≤ (x5_1 : Int) := of_decide_eq_true (by first | (with_reducible assumption) | assumption)
      have q338 : x5_1 < (t335.length : Int) := of_decide_eq_true (by first | (with_reducible assumption) | assumption)
      obtain ⟨ad338, e338, hx338_0, hx338_1, hx338_2, hx338_3, hx338_4, hx338_5, hx338_6, hx338_7, hx338_8, hx338_9, hx338_10⟩ := at_T82 (Kd.R_reads' HO_4.out).2.2 x5_1 p338 q338
      cases e338
      replace p338 := eq_true p338
      replace q338 := eq_true q338
      have hnb41 := NB333_334.out
      have hnc41 := NB334_333.out
      have hcz42 := blk_all5 BK333.out
      go_wp2
      repeat (go_quiet (fail); try go_wp2)
      go_roundg k1
      case measure => have := HK1.out; omega
      case rel => exact ⟨(wrap64 (x5_1 + 1)), (x335000_1), (x335001_1), (x335002_1), (x335003_1), (x335004_1), (x335005_1), (x335006_1), (x335007_1), (x335008_1), (x335009_1), (x335010_1), eq_now, H', ⟨by have := HK1.out; omega⟩, ⟨by (with_reducible repeat (first | apply Kd.R_alloc | apply Kd.R_drewN | apply Kd.R_drew)); exact HO_4.out⟩, ⟨bk_now⟩, ⟨bk_now⟩, ⟨b_now⟩⟩
    ·rw [if_neg c7] at H
     exact absurd H (by simp)
   ·rw [if_neg c6] at H
    have c6b0 : decide (x5_1 < (t335.length : Int)) = false := decide_eq_false c6
    clear c6
    simp only [Option.some.injEq, Prod.mk.injEq] at H
    obtain ⟨rfl, rfl, rfl, rfl, rfl, rfl, rfl, rfl, rfl, rfl, rfl, rfl⟩ := H
    obtain ⟨Ao43, co43, eo43⟩ := Kd.R_slice HO_4.out
    subst eo43
    have hnb44 := NB334_333.out
    have hnc44 := NB333_334.out
    have hcz45 := blk_all11 BK334.out
    go_wp2
    repeat (go_quiet (fail); try go_wp2)
    refine bodyPost_ret (results_ct rfl _ _ gb334 82 #[.int .u8 0, .int .i64 0, .int .i64 0, .int .i64 0, .bool false, .bool false, .int .i64 0, .int .i64 0, .int .i64 0, .int .i64 0, .int .i64 0] (0, 0) _ rfl bk_now Tryd.underlying82 rfl (by kernel_rfl)) rfl ?_
    exact ⟨ret_now, b_now⟩

/-! ### stockaderef02_wrong: function 49 -/
def stockaderef02_wrong.f (a0 : Int) (a1 : Int) : Option (Bool) := if a0 = 1 then (if a1 > 10 then (some true) else (if a0 = 2 then (some (decide (a1 > 9))) else (some false))) else (if a0 = 2 then (some (decide (a1 > 9))) else (some false))
set_option maxHeartbeats 8000000 in
set_option maxRecDepth 100000 in
theorem stockaderef02_wrong.calls (a0 : Int) (a1 : Int) (r : Bool) (w : World) (h : stockaderef02_wrong.f a0 a1 = some r) :
  Calls Tryd.prog 49 #[.int .i64 a0, .int .u8 a1] w fun e w' => e = .returned (.bool r) ∧ Drawn0 w w' := by
 have H : (if a0 = 1 then (if a1 > 10 then (some true) else (if a0 = 2 then (some (decide (a1 > 9))) else (some false))) else (if a0 = 2 then (some (decide (a1 > 9))) else (some false))) = some r := h
 clear h
 by_cases c3 : a0 = 1
 ·rw [if_pos c3] at H
  have c3b0 : (a0 == 1) = true := beq_iff_eq.mpr c3
  have c3b1 : (a0 != 1) = false := bne_eq_false_iff_eq.mpr c3
  clear c3
  by_cases c4 : a1 > 10
  ·rw [if_pos c4] at H
   have c4b0 : decide (10 < a1) = true := decide_eq_true c4
   clear c4
   obtain rfl := Option.some.inj H
   go_enter Tryd.func49, Tryd.ntmps49
   go_wp2
   go_ret
   exact ⟨by first | rfl | (simp; done) | (simp [*]; done), by repeat (first | exact Drawn0.refl _ | apply Drawn0.step)⟩
  ·rw [if_neg c4] at H
   have c4b0 : decide (10 < a1) = false := decide_eq_false c4
   clear c4
   by_cases c5 : a0 = 2
   ·rw [if_pos c5] at H
    have c5b0 : (a0 == 2) = true := beq_iff_eq.mpr c5
    have c5b1 : (a0 != 2) = false := bne_eq_false_iff_eq.mpr c5
    clear c5
    obtain rfl := Option.some.inj H
    go_enter Tryd.func49, Tryd.ntmps49
    go_wp2
    go_ret
    exact ⟨by first | rfl | (simp; done) | (simp [*]; done), by repeat (first | exact Drawn0.refl _ | apply Drawn0.step)⟩
   ·rw [if_neg c5] at H
    have c5b0 : (a0 == 2) = false := beq_eq_false_iff_ne.mpr c5
    have c5b1 : (a0 != 2) = true := bne_iff_ne.mpr c5
    obtain rfl := Option.some.inj H
    go_enter Tryd.func49, Tryd.ntmps49
    go_wp2
    go_ret
    exact ⟨by first | rfl | (simp; done) | (simp [*]; done), by repeat (first | exact Drawn0.refl _ | apply Drawn0.step)⟩
 ·rw [if_neg c3] at H
  have c3b0 : (a0 == 1) = false := beq_eq_false_iff_ne.mpr c3
  have c3b1 : (a0 != 1) = true := bne_iff_ne.mpr c3
  by_cases c6 : a0 = 2
  ·rw [if_pos c6] at H
   have c6b0 : (a0 == 2) = true := beq_iff_eq.mpr c6
   have c6b1 : (a0 != 2) = false := bne_eq_false_iff_eq.mpr c6
   clear c6
   obtain rfl := Option.some.inj H
   go_enter Tryd.func49, Tryd.ntmps49
   go_wp2
   go_ret
   exact ⟨by first | rfl | (simp; done) | (simp [*]; done), by repeat (first | exact Drawn0.refl _ | apply Drawn0.step)⟩
  ·rw [if_neg c6] at H
   have c6b0 : (a0 == 2) = false := beq_eq_false_iff_ne.mpr c6
   have c6b1 : (a0 != 2) = true := bne_iff_ne.mpr c6
   obtain rfl := Option.some.inj H
   go_enter Tryd.func49, Tryd.ntmps49
   go_wp2
   go_ret
   exact ⟨by first | rfl | (simp; done) | (simp [*]; done), by repeat (first | exact Drawn0.refl _ | apply Drawn0.step)⟩

end Go.Proofs.YtkjcjlegokdpdaaDoor.P
