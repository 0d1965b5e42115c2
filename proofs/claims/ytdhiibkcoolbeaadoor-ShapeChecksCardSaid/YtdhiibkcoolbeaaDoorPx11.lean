/- Made by this session's driver over the kit's printer: for each Go function a Lean function with the same answers, and a proof that the Go call comes to these answers; no conditions but the ones each theorem names. -/
import Derived.Test.YtdhiibkcoolbeaaDoorPx0
import Derived.Test.YtdhiibkcoolbeaaDoorPx10
namespace Go.Proofs.YtdhiibkcoolbeaaDoor.P
open Go.RowKit Go.Proofs.YtdhiibkcoolbeaaDoorW.PrintWords Go.Proofs.YtdhiibkcoolbeaaDoorW.PrintLast Go.Proofs.YtdhiibkcoolbeaaDoorW.PrintMore
attribute [local go_sem] max2_int min2_int max_two min_two max_three min_three max_four min_four   -- for this text's walks alone
set_option linter.unusedVariables false
set_option linter.unusedSimpArgs false

/-! ### stockaderef02_Find: function 35 -/
def stockaderef02_Find.l0 : Nat → List (S68) → Int → Int → Int → Int → Int → Int → Option (Int × Int × Int × Int × Bool × Bool × Int × Int × Int × Int × Int × Bool)
 | 0, _, _, _, _, _, _, _ => none
 | k + 1, x4, x5, x264000, x264001, x264002, x264003, x264004 => if x5 < (x4.length : Int) then (if 0 ≤ x5 then (if ((rd_T68 x4 x5).f0) = x264000 then (if ((rd_T68 x4 x5).f3) = 4 then (if (wrap64 (x264002)) = ((rd_T68 x4 x5).f6) then (if ((rd_T68 x4 x5).f5) = 4 then (if (wrap64 (x264004)) = ((rd_T68 x4 x5).f6) then (some ((rd_T68 x4 x5).f0, (rd_T68 x4 x5).f1.f0, (rd_T68 x4 x5).f1.f1, (rd_T68 x4 x5).f1.f2, (rd_T68 x4 x5).f1.f3, (rd_T68 x4 x5).f1.f4, (rd_T68 x4 x5).f2, (rd_T68 x4 x5).f3, (rd_T68 x4 x5).f4, (rd_T68 x4 x5).f5, (rd_T68 x4 x5).f6, true)) else (stockaderef02_Find.l0 k x4 (wrap64 (x5 + 1)) x264000 x264001 x264002 x264003 x264004)) else (some ((rd_T68 x4 x5).f0, (rd_T68 x4 x5).f1.f0, (rd_T68 x4 x5).f1.f1, (rd_T68 x4 x5).f1.f2, (rd_T68 x4 x5).f1.f3, (rd_T68 x4 x5).f1.f4, (rd_T68 x4 x5).f2, (rd_T68 x4 x5).f3, (rd_T68 x4 x5).f4, (rd_T68 x4 x5).f5, (rd_T68 x4 x5).f6, true))) else (stockaderef02_Find.l0 k x4 (wrap64 (x5 + 1)) x264000 x264001 x264002 x264003 x264004)) else (if ((rd_T68 x4 x5).f5) = 4 then (if (wrap64 (x264004)) = ((rd_T68 x4 x5).f6) then (some ((rd_T68 x4 x5).f0, (rd_T68 x4 x5).f1.f0, (rd_T68 x4 x5).f1.f1, (rd_T68 x4 x5).f1.f2, (rd_T68 x4 x5).f1.f3, (rd_T68 x4 x5).f1.f4, (rd_T68 x4 x5).f2, (rd_T68 x4 x5).f3, (rd_T68 x4 x5).f4, (rd_T68 x4 x5).f5, (rd_T68 x4 x5).f6, true)) else (stockaderef02_Find.l0 k x4 (wrap64 (x5 + 1)) x264000 x264001 x264002 x264003 x264004)) else (some ((rd_T68 x4 x5).f0, (rd_T68 x4 x5).f1.f0, (rd_T68 x4 x5).f1.f1, (rd_T68 x4 x5).f1.f2, (rd_T68 x4 x5).f1.f3, (rd_T68 x4 x5).f1.f4, (rd_T68 x4 x5).f2, (rd_T68 x4 x5).f3, (rd_T68 x4 x5).f4, (rd_T68 x4 x5).f5, (rd_T68 x4 x5).f6, true)))) else (stockaderef02_Find.l0 k x4 (wrap64 (x5 + 1)) x264000 x264001 x264002 x264003 x264004)) else (none)) else (some (0, 0, 0, 0, false, false, 0, 0, 0, 0, 0, false))
def stockaderef02_Find.f (k : Nat) (a0_0 : Int) (a0_1 : Int) (a0_2 : Int) (a0_3 : Int) (a0_4 : Int) : Option (Int × Int × Int × Int × Bool × Bool × Int × Int × Int × Int × Int × Bool) := (stockaderef02_Rows.f k).bind fun t265 => (stockaderef02_Find.l0 k t265 0 a0_0 a0_1 a0_2 a0_3 a0_4)
theorem stockaderef02_Find.mono_l : ∀ k, (∀ y0 y1 y2 y3 y4 y5 y6, LeO (stockaderef02_Find.l0 k y0 y1 y2 y3 y4 y5 y6) (stockaderef02_Find.l0 (k + 1) y0 y1 y2 y3 y4 y5 y6))
 | 0 => fun _ _ _ _ _ _ _ r h => by simp [stockaderef02_Find.l0] at h
 | k + 1 => by
  have ih0 := stockaderef02_Find.mono_l k
  ·intro y0 y1 y2 y3 y4 y5 y6
   unfold stockaderef02_Find.l0
   repeat' first
   | (with_reducible exact ih0 _ _ _ _ _ _ _)
   | (with_reducible exact stockaderef02_Rows.mono _)
   | (with_reducible exact LeO.refl _)
   | (with_reducible exact LeO.none _)
   | (with_reducible refine LeO.ite ?_ ?_)
   | (with_reducible refine LeO.bind ?_ (fun _ => ?_))
   | exact ih0 _ _ _ _ _ _ _
   | exact stockaderef02_Rows.mono _
   | exact LeO.none _
   | refine LeO.ite ?_ ?_
   | refine LeO.bind ?_ (fun _ => ?_)
theorem stockaderef02_Find.mono : ∀ a0 a1 a2 a3 a4 k, LeO (stockaderef02_Find.f k a0 a1 a2 a3 a4) (stockaderef02_Find.f (k + 1) a0 a1 a2 a3 a4) := by
 intro a0 a1 a2 a3 a4 k
 have ih0 := stockaderef02_Find.mono_l k
 unfold stockaderef02_Find.f
 repeat' first
   | (with_reducible exact ih0 _ _ _ _ _ _ _)
   | (with_reducible exact stockaderef02_Rows.mono _)
   | (with_reducible exact LeO.refl _)
   | (with_reducible exact LeO.none _)
   | (with_reducible refine LeO.ite ?_ ?_)
   | (with_reducible refine LeO.bind ?_ (fun _ => ?_))
   | exact ih0 _ _ _ _ _ _ _
   | exact stockaderef02_Rows.mono _
   | exact LeO.none _
   | refine LeO.ite ?_ ?_
   | refine LeO.bind ?_ (fun _ => ?_)
set_option maxHeartbeats 8000000 in
set_option maxRecDepth 100000 in
theorem stockaderef02_Find.calls (k : Nat) (a0_0 : Int) (a0_1 : Int) (a0_2 : Int) (a0_3 : Int) (a0_4 : Int) (r1 : Int) (r2 : Int) (r3 : Int) (r4 : Int) (r5 : Bool) (r6 : Bool) (r7 : Int) (r8 : Int) (r9 : Int) (r10 : Int) (r11 : Int) (r12 : Bool) (w : World) (h : stockaderef02_Find.f k a0_0 a0_1 a0_2 a0_3 a0_4 = some (r1, r2, r3, r4, r5, r6, r7, r8, r9, r10, r11, r12)) :
  Calls Tryd.prog 35 #[.agg #[.int .u8 a0_0, .int .u8 a0_1, .int .u8 a0_2, .int .i16 a0_3, .int .i32 a0_4]] w fun e w' => e = .returned (.tuple #[.agg #[.int .u8 r1, .int .i64 r2, .int .i64 r3, .int .i64 r4, .bool r5, .bool r6, .int .i64 r7, .int .i64 r8, .int .i64 r9, .int .i64 r10, .int .i64 r11], .bool r12]) ∧ Below w.heap.size w w' := by
 have hu40 := Tryd.underlying40
 have hu68 := Tryd.underlying68
 have HB := Aside0.mk (Below.refl w.heap.size w)
 have H : ((stockaderef02_Rows.f k).bind fun t265 => (stockaderef02_Find.l0 k t265 0 a0_0 a0_1 a0_2 a0_3 a0_4)) = some (r1, r2, r3, r4, r5, r6, r7, r8, r9, r10, r11, r12) := h
 clear h
 replace H := Option.bind_eq_some_iff.mp H; obtain ⟨t265, A20, H⟩ := H; try dsimp only at H
 have A2 := Aside0.mk A20
 clear A20
 have H' := Aside0.mk H
 clear H
 go_enter Tryd.func35, Tryd.ntmps35
 go_wp2_with (first | ((with_reducible refine gate_dst (N := 1) rfl ?_); refine sh_box 1 #[.int .u8 a0_0, .int .u8 a0_1, .int .u8 a0_2, .int .i16 a0_3, .int .i32 a0_4] 40 ?_; intro gb263 hg w3 hbox hb; have GE263 := sh_z (w := w) hg; replace HB := sh_b (w := w) hb; have BK263 := Aside0.mk (hbox); clear hb hbox hg) | ((with_reducible refine gate_dst (N := 2) rfl ?_); refine sh_box 2 #[.int .u8 0, .int .i64 0, .int .i64 0, .int .i64 0, .bool false, .bool false, .int .i64 0, .int .i64 0, .int .i64 0, .int .i64 0, .int .i64 0] 68 ?_; intro gb264 hg w4 hbox hb; have GE264 := sh_z (w := w) hg; have NB263_264 := sh_n BK263 hg; have NB264_263 := sh_s NB263_264; replace BK263 := sh_k BK263 hb; replace HB := sh_b (w := w) hb; have BK264 := Aside0.mk (hbox); clear hb hbox hg) | (go_at_call 38; (with_reducible refine (stockaderef02_Rows.calls k  t265 _ A2.out).mono ?_); rintro e w5 ⟨v266, rfl, ho0, hb⟩; have HO267 := Aside0.mk (Kd.R_lower (Kd.R_newB ho0 (g := gb264) (o := .cells #[.int .u8 0, .int .i64 0, .int .i64 0, .int .i64 0, .bool false, .bool false, .int .i64 0, .int .i64 0, .int .i64 0, .int .i64 0, .int .i64 0] 68 (0, 0)) bk_now) (below_size b_now)); replace BK263 := sh_k BK263 hb; replace BK264 := sh_k BK264 hb; replace HB := sh_b (w := w) hb; (try clear hb); (try clear hb2); (try clear hk); (try clear hi); (try clear ho0)))
 repeat (go_quiet (first | ((with_reducible refine gate_dst (N := 1) rfl ?_); refine sh_box 1 #[.int .u8 a0_0, .int .u8 a0_1, .int .u8 a0_2, .int .i16 a0_3, .int .i32 a0_4] 40 ?_; intro gb263 hg w3 hbox hb; have GE263 := sh_z (w := w) hg; replace HB := sh_b (w := w) hb; have BK263 := Aside0.mk (hbox); clear hb hbox hg) | ((with_reducible refine gate_dst (N := 2) rfl ?_); refine sh_box 2 #[.int .u8 0, .int .i64 0, .int .i64 0, .int .i64 0, .bool false, .bool false, .int .i64 0, .int .i64 0, .int .i64 0, .int .i64 0, .int .i64 0] 68 ?_; intro gb264 hg w4 hbox hb; have GE264 := sh_z (w := w) hg; have NB263_264 := sh_n BK263 hg; have NB264_263 := sh_s NB263_264; replace BK263 := sh_k BK263 hb; replace HB := sh_b (w := w) hb; have BK264 := Aside0.mk (hbox); clear hb hbox hg) | (go_at_call 38; (with_reducible refine (stockaderef02_Rows.calls k  t265 _ A2.out).mono ?_); rintro e w5 ⟨v266, rfl, ho0, hb⟩; have HO267 := Aside0.mk (Kd.R_lower (Kd.R_newB ho0 (g := gb264) (o := .cells #[.int .u8 0, .int .i64 0, .int .i64 0, .int .i64 0, .bool false, .bool false, .int .i64 0, .int .i64 0, .int .i64 0, .int .i64 0, .int .i64 0] 68 (0, 0)) bk_now) (below_size b_now)); replace BK263 := sh_k BK263 hb; replace BK264 := sh_k BK264 hb; replace HB := sh_b (w := w) hb; (try clear hb); (try clear hb2); (try clear hk); (try clear hi); (try clear ho0))); try go_wp2_with (first | ((with_reducible refine gate_dst (N := 1) rfl ?_); refine sh_box 1 #[.int .u8 a0_0, .int .u8 a0_1, .int .u8 a0_2, .int .i16 a0_3, .int .i32 a0_4] 40 ?_; intro gb263 hg w3 hbox hb; have GE263 := sh_z (w := w) hg; replace HB := sh_b (w := w) hb; have BK263 := Aside0.mk (hbox); clear hb hbox hg) | ((with_reducible refine gate_dst (N := 2) rfl ?_); refine sh_box 2 #[.int .u8 0, .int .i64 0, .int .i64 0, .int .i64 0, .bool false, .bool false, .int .i64 0, .int .i64 0, .int .i64 0, .int .i64 0, .int .i64 0] 68 ?_; intro gb264 hg w4 hbox hb; have GE264 := sh_z (w := w) hg; have NB263_264 := sh_n BK263 hg; have NB264_263 := sh_s NB263_264; replace BK263 := sh_k BK263 hb; replace HB := sh_b (w := w) hb; have BK264 := Aside0.mk (hbox); clear hb hbox hg) | (go_at_call 38; (with_reducible refine (stockaderef02_Rows.calls k  t265 _ A2.out).mono ?_); rintro e w5 ⟨v266, rfl, ho0, hb⟩; have HO267 := Aside0.mk (Kd.R_lower (Kd.R_newB ho0 (g := gb264) (o := .cells #[.int .u8 0, .int .i64 0, .int .i64 0, .int .i64 0, .bool false, .bool false, .int .i64 0, .int .i64 0, .int .i64 0, .int .i64 0, .int .i64 0] 68 (0, 0)) bk_now) (below_size b_now)); replace BK263 := sh_k BK263 hb; replace BK264 := sh_k BK264 hb; replace HB := sh_b (w := w) hb; (try clear hb); (try clear hb2); (try clear hk); (try clear hi); (try clear ho0))))
 go_loopg [5] k (fun kq v5 w' => ∃ (x5_1 : Int) (x265000_1 : Int) (x265001_1 : Int) (x265002_1 : Int) (x265003_1 : Int) (x265004_1 : Bool) (x265005_1 : Bool) (x265006_1 : Int) (x265007_1 : Int) (x265008_1 : Int) (x265009_1 : Int) (x265010_1 : Int), v5 = .int .i64 x5_1 ∧ Aside0 (stockaderef02_Find.l0 kq t265 x5_1 a0_0 a0_1 a0_2 a0_3 a0_4 = some (r1, r2, r3, r4, r5, r6, r7, r8, r9, r10, r11, r12)) ∧ Aside0 (kq ≤ k) ∧ Aside0 (Kd.R k68 68 w' w.heap.size (fun k_ => k_ ≠ gb264) v266 t265) ∧ Aside0 (w'.heap[gb263]? = some (.cells #[.int .u8 a0_0, .int .u8 a0_1, .int .u8 a0_2, .int .i16 a0_3, .int .i32 a0_4] 40 (0, 0))) ∧ Aside0 (w'.heap[gb264]? = some (.cells #[.int .u8 x265000_1, .int .i64 x265001_1, .int .i64 x265002_1, .int .i64 x265003_1, .bool x265004_1, .bool x265005_1, .int .i64 x265006_1, .int .i64 x265007_1, .int .i64 x265008_1, .int .i64 x265009_1, .int .i64 x265010_1] 68 (0, 0))) ∧ Aside0 (Below w.heap.size w w'))
 case atStart => exact ⟨(0), (0), (0), (0), (0), (false), (false), (0), (0), (0), (0), (0), eq_now, H', ⟨Nat.le_refl _⟩, ⟨by (with_reducible repeat (first | apply Kd.R_alloc | apply Kd.R_drewN | apply Kd.R_drew)); exact Kd.R_mono HO267.out (fun _ hk => hk.2)⟩, ⟨bk_now⟩, ⟨bk_now⟩, ⟨b_now⟩⟩
 case round =>
  clear H'
  try clear p2
  try clear c3
  obtain ⟨x5_1, x265000_1, x265001_1, x265002_1, x265003_1, x265004_1, x265005_1, x265006_1, x265007_1, x265008_1, x265009_1, x265010_1, rfl, HA, HK1, HO_4, BK263, BK264, HB⟩ := hrel
  cases gk with
  | zero => exact absurd HA.out (by simp [stockaderef02_Find.l0])
  | succ k1 =>
   have H := HA.out
   clear HA
   simp only [stockaderef02_Find.l0] at H
   by_cases c6 : x5_1 < (t265.length : Int)
   ·rw [if_pos c6] at H
    have c6b0 : decide (x5_1 < (t265.length : Int)) = true := decide_eq_true c6
    clear c6
    by_cases c7 : 0 ≤ x5_1
    ·rw [if_pos c7] at H
     have c7b0 : decide (0 ≤ x5_1) = true := decide_eq_true c7
     clear c7
     by_cases c8 : ((rd_T68 t265 x5_1).f0) = a0_0
     ·rw [if_pos c8] at H
      have c8b0 : (((rd_T68 t265 x5_1).f0) == a0_0) = true := beq_iff_eq.mpr c8
      have c8b1 : (((rd_T68 t265 x5_1).f0) != a0_0) = false := bne_eq_false_iff_eq.mpr c8
      clear c8
      by_cases c9 : ((rd_T68 t265 x5_1).f3) = 4
      ·rw [if_pos c9] at H
       have c9b0 : (((rd_T68 t265 x5_1).f3) == 4) = true := beq_iff_eq.mpr c9
       have c9b1 : (((rd_T68 t265 x5_1).f3) != 4) = false := bne_eq_false_iff_eq.mpr c9
       clear c9
       by_cases c10 : (wrap64 (a0_2)) = ((rd_T68 t265 x5_1).f6)
       ·rw [if_pos c10] at H
        have c10b0 : ((wrap64 (a0_2)) == ((rd_T68 t265 x5_1).f6)) = true := beq_iff_eq.mpr c10
        have c10b1 : ((wrap64 (a0_2)) != ((rd_T68 t265 x5_1).f6)) = false := bne_eq_false_iff_eq.mpr c10
        clear c10
        by_cases c11 : ((rd_T68 t265 x5_1).f5) = 4
        ·rw [if_pos c11] at H
         have c11b0 : (((rd_T68 t265 x5_1).f5) == 4) = true := beq_iff_eq.mpr c11
         have c11b1 : (((rd_T68 t265 x5_1).f5) != 4) = false := bne_eq_false_iff_eq.mpr c11
         clear c11
         by_cases c12 : (wrap64 (a0_4)) = ((rd_T68 t265 x5_1).f6)
         ·rw [if_pos c12] at H
          have c12b0 : ((wrap64 (a0_4)) == ((rd_T68 t265 x5_1).f6)) = true := beq_iff_eq.mpr c12
          have c12b1 : ((wrap64 (a0_4)) != ((rd_T68 t265 x5_1).f6)) = false := bne_eq_false_iff_eq.mpr c12
          clear c12
          simp only [Option.some.injEq, Prod.mk.injEq] at H
          obtain ⟨rfl, rfl, rfl, rfl, rfl, rfl, rfl, rfl, rfl, rfl, rfl, rfl⟩ := H
          obtain ⟨Ao13, co13, eo13⟩ := Kd.R_slice HO_4.out
          subst eo13
          have p268 : 0 ≤ (x5_1 : Int) := of_decide_eq_true (by first | (with_reducible assumption) | assumption)
          have q268 : x5_1 < (t265.length : Int) := of_decide_eq_true (by first | (with_reducible assumption) | assumption)
          obtain ⟨ad268, e268, hx268_0, hx268_1, hx268_2, hx268_3, hx268_4, hx268_5, hx268_6, hx268_7, hx268_8, hx268_9, hx268_10⟩ := at_T68 (Kd.R_reads' HO_4.out).2.2 x5_1 p268 q268
          cases e268
          replace p268 := eq_true p268
          replace q268 := eq_true q268
          have hnb14 := NB263_264.out
          have hnc14 := NB264_263.out
          have hcz15 := blk_all5 BK263.out
          have p269 : 0 ≤ (x5_1 : Int) := of_decide_eq_true (by first | (with_reducible assumption) | assumption)
          have q269 : x5_1 < (t265.length : Int) := of_decide_eq_true (by first | (with_reducible assumption) | assumption)
          obtain ⟨ad269, e269, hx269_0, hx269_1, hx269_2, hx269_3, hx269_4, hx269_5, hx269_6, hx269_7, hx269_8, hx269_9, hx269_10⟩ := at_T68 (Kd.R_reads' HO_4.out).2.2 x5_1 p269 q269
          obtain rfl : ad268 = ad269 := (by injection e269)
          replace p269 := eq_true p269
          replace q269 := eq_true q269
          have p270 : 0 ≤ (x5_1 : Int) := of_decide_eq_true (by first | (with_reducible assumption) | assumption)
          have q270 : x5_1 < (t265.length : Int) := of_decide_eq_true (by first | (with_reducible assumption) | assumption)
          obtain ⟨ad270, e270, hx270_0, hx270_1, hx270_2, hx270_3, hx270_4, hx270_5, hx270_6, hx270_7, hx270_8, hx270_9, hx270_10⟩ := at_T68 (Kd.R_reads' HO_4.out).2.2 x5_1 p270 q270
          obtain rfl : ad268 = ad270 := (by injection e270)
          replace p270 := eq_true p270
          replace q270 := eq_true q270
          have p271 : 0 ≤ (x5_1 : Int) := of_decide_eq_true (by first | (with_reducible assumption) | assumption)
          have q271 : x5_1 < (t265.length : Int) := of_decide_eq_true (by first | (with_reducible assumption) | assumption)
          obtain ⟨ad271, e271, hx271_0, hx271_1, hx271_2, hx271_3, hx271_4, hx271_5, hx271_6, hx271_7, hx271_8, hx271_9, hx271_10⟩ := at_T68 (Kd.R_reads' HO_4.out).2.2 x5_1 p271 q271
          obtain rfl : ad268 = ad271 := (by injection e271)
          replace p271 := eq_true p271
          replace q271 := eq_true q271
          have p272 : 0 ≤ (x5_1 : Int) := of_decide_eq_true (by first | (with_reducible assumption) | assumption)
          have q272 : x5_1 < (t265.length : Int) := of_decide_eq_true (by first | (with_reducible assumption) | assumption)
          obtain ⟨ad272, e272, hx272_0, hx272_1, hx272_2, hx272_3, hx272_4, hx272_5, hx272_6, hx272_7, hx272_8, hx272_9, hx272_10⟩ := at_T68 (Kd.R_reads' HO_4.out).2.2 x5_1 p272 q272
          obtain rfl : ad268 = ad272 := (by injection e272)
          replace p272 := eq_true p272
          replace q272 := eq_true q272
          have p273 : 0 ≤ (x5_1 : Int) := of_decide_eq_true (by first | (with_reducible assumption) | assumption)
          have q273 : x5_1 < (t265.length : Int) := of_decide_eq_true (by first | (with_reducible assumption) | assumption)
          obtain ⟨ad273, e273, hx273_0, hx273_1, hx273_2, hx273_3, hx273_4, hx273_5, hx273_6, hx273_7, hx273_8, hx273_9, hx273_10⟩ := at_T68 (Kd.R_reads' HO_4.out).2.2 x5_1 p273 q273
          obtain rfl : ad268 = ad273 := (by injection e273)
          replace p273 := eq_true p273
          replace q273 := eq_true q273
          have hcz16 := blk_all11 BK264.out
          go_wp2
          repeat (go_quiet (fail); try go_wp2)
          refine bodyPost_ret (results_ct rfl _ _ gb264 68 #[.int .u8 ((rd_T68 t265 x5_1).f0), .int .i64 ((rd_T68 t265 x5_1).f1.f0), .int .i64 ((rd_T68 t265 x5_1).f1.f1), .int .i64 ((rd_T68 t265 x5_1).f1.f2), .bool ((rd_T68 t265 x5_1).f1.f3), .bool ((rd_T68 t265 x5_1).f1.f4), .int .i64 ((rd_T68 t265 x5_1).f2), .int .i64 ((rd_T68 t265 x5_1).f3), .int .i64 ((rd_T68 t265 x5_1).f4), .int .i64 ((rd_T68 t265 x5_1).f5), .int .i64 ((rd_T68 t265 x5_1).f6)] (0, 0) _ rfl bk_now Tryd.underlying68 rfl (by kernel_rfl)) rfl ?_
          exact ⟨ret_now, b_now⟩
         ·rw [if_neg c12] at H
          have c12b0 : ((wrap64 (a0_4)) == ((rd_T68 t265 x5_1).f6)) = false := beq_eq_false_iff_ne.mpr c12
          have c12b1 : ((wrap64 (a0_4)) != ((rd_T68 t265 x5_1).f6)) = true := bne_iff_ne.mpr c12
          have H' := Aside0.mk H
          clear H
          obtain ⟨Ao17, co17, eo17⟩ := Kd.R_slice HO_4.out
          subst eo17
          have p268 : 0 ≤ (x5_1 : Int) := of_decide_eq_true (by first | (with_reducible assumption) | assumption)
          have q268 : x5_1 < (t265.length : Int) := of_decide_eq_true (by first | (with_reducible assumption) | assumption)
          obtain ⟨ad268, e268, hx268_0, hx268_1, hx268_2, hx268_3, hx268_4, hx268_5, hx268_6, hx268_7, hx268_8, hx268_9, hx268_10⟩ := at_T68 (Kd.R_reads' HO_4.out).2.2 x5_1 p268 q268
          cases e268
          replace p268 := eq_true p268
          replace q268 := eq_true q268
          have hnb18 := NB263_264.out
          have hnc18 := NB264_263.out
          have hcz19 := blk_all5 BK263.out
          have p269 : 0 ≤ (x5_1 : Int) := of_decide_eq_true (by first | (with_reducible assumption) | assumption)
          have q269 : x5_1 < (t265.length : Int) := of_decide_eq_true (by first | (with_reducible assumption) | assumption)
          obtain ⟨ad269, e269, hx269_0, hx269_1, hx269_2, hx269_3, hx269_4, hx269_5, hx269_6, hx269_7, hx269_8, hx269_9, hx269_10⟩ := at_T68 (Kd.R_reads' HO_4.out).2.2 x5_1 p269 q269
          obtain rfl : ad268 = ad269 := (by injection e269)
          replace p269 := eq_true p269
          replace q269 := eq_true q269
          have p270 : 0 ≤ (x5_1 : Int) := of_decide_eq_true (by first | (with_reducible assumption) | assumption)
          have q270 : x5_1 < (t265.length : Int) := of_decide_eq_true (by first | (with_reducible assumption) | assumption)
          obtain ⟨ad270, e270, hx270_0, hx270_1, hx270_2, hx270_3, hx270_4, hx270_5, hx270_6, hx270_7, hx270_8, hx270_9, hx270_10⟩ := at_T68 (Kd.R_reads' HO_4.out).2.2 x5_1 p270 q270
          obtain rfl : ad268 = ad270 := (by injection e270)
          replace p270 := eq_true p270
          replace q270 := eq_true q270
          have p271 : 0 ≤ (x5_1 : Int) := of_decide_eq_true (by first | (with_reducible assumption) | assumption)
          have q271 : x5_1 < (t265.length : Int) := of_decide_eq_true (by first | (with_reducible assumption) | assumption)
          obtain ⟨ad271, e271, hx271_0, hx271_1, hx271_2, hx271_3, hx271_4, hx271_5, hx271_6, hx271_7, hx271_8, hx271_9, hx271_10⟩ := at_T68 (Kd.R_reads' HO_4.out).2.2 x5_1 p271 q271
          obtain rfl : ad268 = ad271 := (by injection e271)
          replace p271 := eq_true p271
          replace q271 := eq_true q271
          have p272 : 0 ≤ (x5_1 : Int) := of_decide_eq_true (by first | (with_reducible assumption) | assumption)
          have q272 : x5_1 < (t265.length : Int) := of_decide_eq_true (by first | (with_reducible assumption) | assumption)
          obtain ⟨ad272, e272, hx272_0, hx272_1, hx272_2, hx272_3, hx272_4, hx272_5, hx272_6, hx272_7, hx272_8, hx272_9, hx272_10⟩ := at_T68 (Kd.R_reads' HO_4.out).2.2 x5_1 p272 q272
          obtain rfl : ad268 = ad272 := (by injection e272)
          replace p272 := eq_true p272
          replace q272 := eq_true q272
          go_wp2
          repeat (go_quiet (fail); try go_wp2)
          go_roundg k1
          case measure => have := HK1.out; omega
          case rel => exact ⟨(wrap64 (x5_1 + 1)), (x265000_1), (x265001_1), (x265002_1), (x265003_1), (x265004_1), (x265005_1), (x265006_1), (x265007_1), (x265008_1), (x265009_1), (x265010_1), eq_now, H', ⟨by have := HK1.out; omega⟩, ⟨by (with_reducible repeat (first | apply Kd.R_alloc | apply Kd.R_drewN | apply Kd.R_drew)); exact HO_4.out⟩, ⟨bk_now⟩, ⟨bk_now⟩, ⟨b_now⟩⟩
        ·rw [if_neg c11] at H
         have c11b0 : (((rd_T68 t265 x5_1).f5) == 4) = false := beq_eq_false_iff_ne.mpr c11
         have c11b1 : (((rd_T68 t265 x5_1).f5) != 4) = true := bne_iff_ne.mpr c11
         simp only [Option.some.injEq, Prod.mk.injEq] at H
         obtain ⟨rfl, rfl, rfl, rfl, rfl, rfl, rfl, rfl, rfl, rfl, rfl, rfl⟩ := H
         obtain ⟨Ao20, co20, eo20⟩ := Kd.R_slice HO_4.out
         subst eo20
         have p268 : 0 ≤ (x5_1 : Int) := of_decide_eq_true (by first | (with_reducible assumption) | assumption)
         have q268 : x5_1 < (t265.length : Int) := of_decide_eq_true (by first | (with_reducible assumption) | assumption)
         obtain ⟨ad268, e268, hx268_0, hx268_1, hx268_2, hx268_3, hx268_4, hx268_5, hx268_6, hx268_7, hx268_8, hx268_9, hx268_10⟩ := at_T68 (Kd.R_reads' HO_4.out).2.2 x5_1 p268 q268
         cases e268
         replace p268 := eq_true p268
         replace q268 := eq_true q268
         have hnb21 := NB263_264.out
         have hnc21 := NB264_263.out
         have hcz22 := blk_all5 BK263.out
         have p269 : 0 ≤ (x5_1 : Int) := of_decide_eq_true (by first | (with_reducible assumption) | assumption)
         have q269 : x5_1 < (t265.length : Int) := of_decide_eq_true (by first | (with_reducible assumption) | assumption)
         obtain ⟨ad269, e269, hx269_0, hx269_1, hx269_2, hx269_3, hx269_4, hx269_5, hx269_6, hx269_7, hx269_8, hx269_9, hx269_10⟩ := at_T68 (Kd.R_reads' HO_4.out).2.2 x5_1 p269 q269
         obtain rfl : ad268 = ad269 := (by injection e269)
         replace p269 := eq_true p269
         replace q269 := eq_true q269
         have p270 : 0 ≤ (x5_1 : Int) := of_decide_eq_true (by first | (with_reducible assumption) | assumption)
         have q270 : x5_1 < (t265.length : Int) := of_decide_eq_true (by first | (with_reducible assumption) | assumption)
         obtain ⟨ad270, e270, hx270_0, hx270_1, hx270_2, hx270_3, hx270_4, hx270_5, hx270_6, hx270_7, hx270_8, hx270_9, hx270_10⟩ := at_T68 (Kd.R_reads' HO_4.out).2.2 x5_1 p270 q270
         obtain rfl : ad268 = ad270 := (by injection e270)
         replace p270 := eq_true p270
         replace q270 := eq_true q270
         have p271 : 0 ≤ (x5_1 : Int) := of_decide_eq_true (by first | (with_reducible assumption) | assumption)
         have q271 : x5_1 < (t265.length : Int) := of_decide_eq_true (by first | (with_reducible assumption) | assumption)
         obtain ⟨ad271, e271, hx271_0, hx271_1, hx271_2, hx271_3, hx271_4, hx271_5, hx271_6, hx271_7, hx271_8, hx271_9, hx271_10⟩ := at_T68 (Kd.R_reads' HO_4.out).2.2 x5_1 p271 q271
         obtain rfl : ad268 = ad271 := (by injection e271)
         replace p271 := eq_true p271
         replace q271 := eq_true q271
         have p274 : 0 ≤ (x5_1 : Int) := of_decide_eq_true (by first | (with_reducible assumption) | assumption)
         have q274 : x5_1 < (t265.length : Int) := of_decide_eq_true (by first | (with_reducible assumption) | assumption)
         obtain ⟨ad274, e274, hx274_0, hx274_1, hx274_2, hx274_3, hx274_4, hx274_5, hx274_6, hx274_7, hx274_8, hx274_9, hx274_10⟩ := at_T68 (Kd.R_reads' HO_4.out).2.2 x5_1 p274 q274
         obtain rfl : ad268 = ad274 := (by injection e274)
         replace p274 := eq_true p274
         replace q274 := eq_true q274
         have hcz23 := blk_all11 BK264.out
         go_wp2
         repeat (go_quiet (fail); try go_wp2)
         refine bodyPost_ret (results_ct rfl _ _ gb264 68 #[.int .u8 ((rd_T68 t265 x5_1).f0), .int .i64 ((rd_T68 t265 x5_1).f1.f0), .int .i64 ((rd_T68 t265 x5_1).f1.f1), .int .i64 ((rd_T68 t265 x5_1).f1.f2), .bool ((rd_T68 t265 x5_1).f1.f3), .bool ((rd_T68 t265 x5_1).f1.f4), .int .i64 ((rd_T68 t265 x5_1).f2), .int .i64 ((rd_T68 t265 x5_1).f3), .int .i64 ((rd_T68 t265 x5_1).f4), .int .i64 ((rd_T68 t265 x5_1).f5), .int .i64 ((rd_T68 t265 x5_1).f6)] (0, 0) _ rfl bk_now Tryd.underlying68 rfl (by kernel_rfl)) rfl ?_
         exact ⟨ret_now, b_now⟩
       ·rw [if_neg c10] at H
        have c10b0 : ((wrap64 (a0_2)) == ((rd_T68 t265 x5_1).f6)) = false := beq_eq_false_iff_ne.mpr c10
        have c10b1 : ((wrap64 (a0_2)) != ((rd_T68 t265 x5_1).f6)) = true := bne_iff_ne.mpr c10
        have H' := Aside0.mk H
        clear H
        obtain ⟨Ao24, co24, eo24⟩ := Kd.R_slice HO_4.out
        subst eo24
        have p268 : 0 ≤ (x5_1 : Int) := of_decide_eq_true (by first | (with_reducible assumption) | assumption)
        have q268 : x5_1 < (t265.length : Int) := of_decide_eq_true (by first | (with_reducible assumption) | assumption)
        obtain ⟨ad268, e268, hx268_0, hx268_1, hx268_2, hx268_3, hx268_4, hx268_5, hx268_6, hx268_7, hx268_8, hx268_9, hx268_10⟩ := at_T68 (Kd.R_reads' HO_4.out).2.2 x5_1 p268 q268
        cases e268
        replace p268 := eq_true p268
        replace q268 := eq_true q268
        have hnb25 := NB263_264.out
        have hnc25 := NB264_263.out
        have hcz26 := blk_all5 BK263.out
        have p269 : 0 ≤ (x5_1 : Int) := of_decide_eq_true (by first | (with_reducible assumption) | assumption)
        have q269 : x5_1 < (t265.length : Int) := of_decide_eq_true (by first | (with_reducible assumption) | assumption)
        obtain ⟨ad269, e269, hx269_0, hx269_1, hx269_2, hx269_3, hx269_4, hx269_5, hx269_6, hx269_7, hx269_8, hx269_9, hx269_10⟩ := at_T68 (Kd.R_reads' HO_4.out).2.2 x5_1 p269 q269
        obtain rfl : ad268 = ad269 := (by injection e269)
        replace p269 := eq_true p269
        replace q269 := eq_true q269
        have p270 : 0 ≤ (x5_1 : Int) := of_decide_eq_true (by first | (with_reducible assumption) | assumption)
        have q270 : x5_1 < (t265.length : Int) := of_decide_eq_true (by first | (with_reducible assumption) | assumption)
        obtain ⟨ad270, e270, hx270_0, hx270_1, hx270_2, hx270_3, hx270_4, hx270_5, hx270_6, hx270_7, hx270_8, hx270_9, hx270_10⟩ := at_T68 (Kd.R_reads' HO_4.out).2.2 x5_1 p270 q270
        obtain rfl : ad268 = ad270 := (by injection e270)
        replace p270 := eq_true p270
        replace q270 := eq_true q270
        go_wp2
        repeat (go_quiet (fail); try go_wp2)
        go_roundg k1
        case measure => have := HK1.out; omega
        case rel => exact ⟨(wrap64 (x5_1 + 1)), (x265000_1), (x265001_1), (x265002_1), (x265003_1), (x265004_1), (x265005_1), (x265006_1), (x265007_1), (x265008_1), (x265009_1), (x265010_1), eq_now, H', ⟨by have := HK1.out; omega⟩, ⟨by (with_reducible repeat (first | apply Kd.R_alloc | apply Kd.R_drewN | apply Kd.R_drew)); exact HO_4.out⟩, ⟨bk_now⟩, ⟨bk_now⟩, ⟨b_now⟩⟩
      ·rw [if_neg c9] at H
       have c9b0 : (((rd_T68 t265 x5_1).f3) == 4) = false := beq_eq_false_iff_ne.mpr c9
       have c9b1 : (((rd_T68 t265 x5_1).f3) != 4) = true := bne_iff_ne.mpr c9
       by_cases c27 : ((rd_T68 t265 x5_1).f5) = 4
       ·rw [if_pos c27] at H
        have c27b0 : (((rd_T68 t265 x5_1).f5) == 4) = true := beq_iff_eq.mpr c27
        have c27b1 : (((rd_T68 t265 x5_1).f5) != 4) = false := bne_eq_false_iff_eq.mpr c27
        clear c27
        by_cases c28 : (wrap64 (a0_4)) = ((rd_T68 t265 x5_1).f6)
        ·rw [if_pos c28] at H
         have c28b0 : ((wrap64 (a0_4)) == ((rd_T68 t265 x5_1).f6)) = true := beq_iff_eq.mpr c28
         have c28b1 : ((wrap64 (a0_4)) != ((rd_T68 t265 x5_1).f6)) = false := bne_eq_false_iff_eq.mpr c28
         clear c28
         simp only [Option.some.injEq, Prod.mk.injEq] at H
         obtain ⟨rfl, rfl, rfl, rfl, rfl, rfl, rfl, rfl, rfl, rfl, rfl, rfl⟩ := H
         obtain ⟨Ao29, co29, eo29⟩ := Kd.R_slice HO_4.out
         subst eo29
         have p268 : 0 ≤ (x5_1 : Int) := of_decide_eq_true (by first | (with_reducible assumption) | assumption)
         have q268 : x5_1 < (t265.length : Int) := of_decide_eq_true (by first | (with_reducible assumption) | assumption)
         obtain ⟨ad268, e268, hx268_0, hx268_1, hx268_2, hx268_3, hx268_4, hx268_5, hx268_6, hx268_7, hx268_8, hx268_9, hx268_10⟩ := at_T68 (Kd.R_reads' HO_4.out).2.2 x5_1 p268 q268
         cases e268
         replace p268 := eq_true p268
         replace q268 := eq_true q268
         have hnb30 := NB263_264.out
         have hnc30 := NB264_263.out
         have hcz31 := blk_all5 BK263.out
         have p269 : 0 ≤ (x5_1 : Int) := of_decide_eq_true (by first | (with_reducible assumption) | assumption)
         have q269 : x5_1 < (t265.length : Int) := of_decide_eq_true (by first | (with_reducible assumption) | assumption)
         obtain ⟨ad269, e269, hx269_0, hx269_1, hx269_2, hx269_3, hx269_4, hx269_5, hx269_6, hx269_7, hx269_8, hx269_9, hx269_10⟩ := at_T68 (Kd.R_reads' HO_4.out).2.2 x5_1 p269 q269
         obtain rfl : ad268 = ad269 := (by injection e269)
         replace p269 := eq_true p269
         replace q269 := eq_true q269
         have p275 : 0 ≤ (x5_1 : Int) := of_decide_eq_true (by first | (with_reducible assumption) | assumption)
         have q275 : x5_1 < (t265.length : Int) := of_decide_eq_true (by first | (with_reducible assumption) | assumption)
         obtain ⟨ad275, e275, hx275_0, hx275_1, hx275_2, hx275_3, hx275_4, hx275_5, hx275_6, hx275_7, hx275_8, hx275_9, hx275_10⟩ := at_T68 (Kd.R_reads' HO_4.out).2.2 x5_1 p275 q275
         obtain rfl : ad268 = ad275 := (by injection e275)
         replace p275 := eq_true p275
         replace q275 := eq_true q275
         have p276 : 0 ≤ (x5_1 : Int) := of_decide_eq_true (by first | (with_reducible assumption) | assumption)
         have q276 : x5_1 < (t265.length : Int) := of_decide_eq_true (by first | (with_reducible assumption) | assumption)
         obtain ⟨ad276, e276, hx276_0, hx276_1, hx276_2, hx276_3, hx276_4, hx276_5, hx276_6, hx276_7, hx276_8, hx276_9, hx276_10⟩ := at_T68 (Kd.R_reads' HO_4.out).2.2 x5_1 p276 q276
         obtain rfl : ad268 = ad276 := (by injection e276)
         replace p276 := eq_true p276
         replace q276 := eq_true q276
         have p277 : 0 ≤ (x5_1 : Int) := of_decide_eq_true (by first | (with_reducible assumption) | assumption)
         have q277 : x5_1 < (t265.length : Int) := of_decide_eq_true (by first | (with_reducible assumption) | assumption)
         obtain ⟨ad277, e277, hx277_0, hx277_1, hx277_2, hx277_3, hx277_4, hx277_5, hx277_6, hx277_7, hx277_8, hx277_9, hx277_10⟩ := at_T68 (Kd.R_reads' HO_4.out).2.2 x5_1 p277 q277
         obtain rfl : ad268 = ad277 := (by injection e277)
         replace p277 := eq_true p277
         replace q277 := eq_true q277
         have hcz32 := blk_all11 BK264.out
         go_wp2
         repeat (go_quiet (fail); try go_wp2)
         refine bodyPost_ret (results_ct rfl _ _ gb264 68 #[.int .u8 ((rd_T68 t265 x5_1).f0), .int .i64 ((rd_T68 t265 x5_1).f1.f0), .int .i64 ((rd_T68 t265 x5_1).f1.f1), .int .i64 ((rd_T68 t265 x5_1).f1.f2), .bool ((rd_T68 t265 x5_1).f1.f3), .bool ((rd_T68 t265 x5_1).f1.f4), .int .i64 ((rd_T68 t265 x5_1).f2), .int .i64 ((rd_T68 t265 x5_1).f3), .int .i64 ((rd_T68 t265 x5_1).f4), .int .i64 ((rd_T68 t265 x5_1).f5), .int .i64 ((rd_T68 t265 x5_1).f6)] (0, 0) _ rfl bk_now Tryd.underlying68 rfl (by kernel_rfl)) rfl ?_
         exact ⟨ret_now, b_now⟩
        ·rw [if_neg c28] at H
         have c28b0 : ((wrap64 (a0_4)) == ((rd_T68 t265 x5_1).f6)) = false := beq_eq_false_iff_ne.mpr c28
         have c28b1 : ((wrap64 (a0_4)) != ((rd_T68 t265 x5_1).f6)) = true := bne_iff_ne.mpr c28
         have H' := Aside0.mk H
         clear H
         obtain ⟨Ao33, co33, eo33⟩ := Kd.R_slice HO_4.out
         subst eo33
         have p268 : 0 ≤ (x5_1 : Int) := of_decide_eq_true (by first | (with_reducible assumption) | assumption)
         have q268 : x5_1 < (t265.length : Int) := of_decide_eq_true (by first | (with_reducible assumption) | assumption)
         obtain ⟨ad268, e268, hx268_0, hx268_1, hx268_2, hx268_3, hx268_4, hx268_5, hx268_6, hx268_7, hx268_8, hx268_9, hx268_10⟩ := at_T68 (Kd.R_reads' HO_4.out).2.2 x5_1 p268 q268
         cases e268
         replace p268 := eq_true p268
         replace q268 := eq_true q268
         have hnb34 := NB263_264.out
         have hnc34 := NB264_263.out
         have hcz35 := blk_all5 BK263.out
         have p269 : 0 ≤ (x5_1 : Int) := of_decide_eq_true (by first | (with_reducible assumption) | assumption)
         have q269 : x5_1 < (t265.length : Int) := of_decide_eq_true (by first | (with_reducible assumption) | assumption)
         obtain ⟨ad269, e269, hx269_0, hx269_1, hx269_2, hx269_3, hx269_4, hx269_5, hx269_6, hx269_7, hx269_8, hx269_9, hx269_10⟩ := at_T68 (Kd.R_reads' HO_4.out).2.2 x5_1 p269 q269
         obtain rfl : ad268 = ad269 := (by injection e269)
         replace p269 := eq_true p269
         replace q269 := eq_true q269
         have p275 : 0 ≤ (x5_1 : Int) := of_decide_eq_true (by first | (with_reducible assumption) | assumption)
         have q275 : x5_1 < (t265.length : Int) := of_decide_eq_true (by first | (with_reducible assumption) | assumption)
         obtain ⟨ad275, e275, hx275_0, hx275_1, hx275_2, hx275_3, hx275_4, hx275_5, hx275_6, hx275_7, hx275_8, hx275_9, hx275_10⟩ := at_T68 (Kd.R_reads' HO_4.out).2.2 x5_1 p275 q275
         obtain rfl : ad268 = ad275 := (by injection e275)
         replace p275 := eq_true p275
         replace q275 := eq_true q275
         have p276 : 0 ≤ (x5_1 : Int) := of_decide_eq_true (by first | (with_reducible assumption) | assumption)
         have q276 : x5_1 < (t265.length : Int) := of_decide_eq_true (by first | (with_reducible assumption) | assumption)
         obtain ⟨ad276, e276, hx276_0, hx276_1, hx276_2, hx276_3, hx276_4, hx276_5, hx276_6, hx276_7, hx276_8, hx276_9, hx276_10⟩ := at_T68 (Kd.R_reads' HO_4.out).2.2 x5_1 p276 q276
         obtain rfl : ad268 = ad276 := (by injection e276)
         replace p276 := eq_true p276
         replace q276 := eq_true q276
         go_wp2
         repeat (go_quiet (fail); try go_wp2)
         go_roundg k1
         case measure => have := HK1.out; omega
         case rel => exact ⟨(wrap64 (x5_1 + 1)), (x265000_1), (x265001_1), (x265002_1), (x265003_1), (x265004_1), (x265005_1), (x265006_1), (x265007_1), (x265008_1), (x265009_1), (x265010_1), eq_now, H', ⟨by have := HK1.out; omega⟩, ⟨by (with_reducible repeat (first | apply Kd.R_alloc | apply Kd.R_drewN | apply Kd.R_drew)); exact HO_4.out⟩, ⟨bk_now⟩, ⟨bk_now⟩, ⟨b_now⟩⟩
       ·rw [if_neg c27] at H
        have c27b0 : (((rd_T68 t265 x5_1).f5) == 4) = false := beq_eq_false_iff_ne.mpr c27
        have c27b1 : (((rd_T68 t265 x5_1).f5) != 4) = true := bne_iff_ne.mpr c27
        simp only [Option.some.injEq, Prod.mk.injEq] at H
        obtain ⟨rfl, rfl, rfl, rfl, rfl, rfl, rfl, rfl, rfl, rfl, rfl, rfl⟩ := H
        obtain ⟨Ao36, co36, eo36⟩ := Kd.R_slice HO_4.out
        subst eo36
        have p268 : 0 ≤ (x5_1 : Int) := of_decide_eq_true (by first | (with_reducible assumption) | assumption)
        have q268 : x5_1 < (t265.length : Int) := of_decide_eq_true (by first | (with_reducible assumption) | assumption)
        obtain ⟨ad268, e268, hx268_0, hx268_1, hx268_2, hx268_3, hx268_4, hx268_5, hx268_6, hx268_7, hx268_8, hx268_9, hx268_10⟩ := at_T68 (Kd.R_reads' HO_4.out).2.2 x5_1 p268 q268
        cases e268
        replace p268 := eq_true p268
        replace q268 := eq_true q268
        have hnb37 := NB263_264.out
        have hnc37 := NB264_263.out
        have hcz38 := blk_all5 BK263.out
        have p269 : 0 ≤ (x5_1 : Int) := of_decide_eq_true (by first | (with_reducible assumption) | assumption)
        have q269 : x5_1 < (t265.length : Int) := of_decide_eq_true (by first | (with_reducible assumption) | assumption)
        obtain ⟨ad269, e269, hx269_0, hx269_1, hx269_2, hx269_3, hx269_4, hx269_5, hx269_6, hx269_7, hx269_8, hx269_9, hx269_10⟩ := at_T68 (Kd.R_reads' HO_4.out).2.2 x5_1 p269 q269
        obtain rfl : ad268 = ad269 := (by injection e269)
        replace p269 := eq_true p269
        replace q269 := eq_true q269
        have p275 : 0 ≤ (x5_1 : Int) := of_decide_eq_true (by first | (with_reducible assumption) | assumption)
        have q275 : x5_1 < (t265.length : Int) := of_decide_eq_true (by first | (with_reducible assumption) | assumption)
        obtain ⟨ad275, e275, hx275_0, hx275_1, hx275_2, hx275_3, hx275_4, hx275_5, hx275_6, hx275_7, hx275_8, hx275_9, hx275_10⟩ := at_T68 (Kd.R_reads' HO_4.out).2.2 x5_1 p275 q275
        obtain rfl : ad268 = ad275 := (by injection e275)
        replace p275 := eq_true p275
        replace q275 := eq_true q275
        have p278 : 0 ≤ (x5_1 : Int) := of_decide_eq_true (by first | (with_reducible assumption) | assumption)
        have q278 : x5_1 < (t265.length : Int) := of_decide_eq_true (by first | (with_reducible assumption) | assumption)
        obtain ⟨ad278, e278, hx278_0, hx278_1, hx278_2, hx278_3, hx278_4, hx278_5, hx278_6, hx278_7, hx278_8, hx278_9, hx278_10⟩ := at_T68 (Kd.R_reads' HO_4.out).2.2 x5_1 p278 q278
        obtain rfl : ad268 = ad278 := (by injection e278)
        replace p278 := eq_true p278
        replace q278 := eq_true q278
        have hcz39 := blk_all11 BK264.out
        go_wp2
        repeat (go_quiet (fail); try go_wp2)
        refine bodyPost_ret (results_ct rfl _ _ gb264 68 #[.int .u8 ((rd_T68 t265 x5_1).f0), .int .i64 ((rd_T68 t265 x5_1).f1.f0), .int .i64 ((rd_T68 t265 x5_1).f1.f1), .int .i64 ((rd_T68 t265 x5_1).f1.f2), .bool ((rd_T68 t265 x5_1).f1.f3), .bool ((rd_T68 t265 x5_1).f1.f4), .int .i64 ((rd_T68 t265 x5_1).f2), .int .i64 ((rd_T68 t265 x5_1).f3), .int .i64 ((rd_T68 t265 x5_1).f4), .int .i64 ((rd_T68 t265 x5_1).f5), .int .i64 ((rd_T68 t265 x5_1).f6)] (0, 0) _ rfl bk_now Tryd.underlying68 rfl (by kernel_rfl)) rfl ?_
        exact ⟨ret_now, b_now⟩
     ·rw [if_neg c8] at H
      have c8b0 : (((rd_T68 t265 x5_1).f0) == a0_0) = false := beq_eq_false_iff_ne.mpr c8
      have c8b1 : (((rd_T68 t265 x5_1).f0) != a0_0) = true := bne_iff_ne.mpr c8
      have H' := Aside0.mk H
      clear H
      obtain ⟨Ao40, co40, eo40⟩ := Kd.R_slice HO_4.out
      subst eo40
      have p268 : 0 ≤ (x5_1 : Int) := of_decide_eq_true (by first | (with_reducible assumption) | assumption)
      have q268 : x5_1 < (t265.length : Int) := of_decide_eq_true (by first | (with_reducible assumption) | assumption)
      obtain ⟨ad268, e268, hx268_0, hx268_1, hx268_2, hx268_3, hx268_4, hx268_5, hx268_6, hx268_7, hx268_8, hx268_9, hx268_10⟩ := at_T68 (Kd.R_reads' HO_4.out).2.2 x5_1 p268 q268
      cases e268
      replace p268 := eq_true p268
      replace q268 := eq_true q268
      have hnb41 := NB263_264.out
      have hnc41 := NB264_263.out
      have hcz42 := blk_all5 BK263.out
      go_wp2
      repeat (go_quiet (fail); try go_wp2)
      go_roundg k1
      case measure => have := HK1.out; omega
      case rel => exact ⟨(wrap64 (x5_1 + 1)), (x265000_1), (x265001_1), (x265002_1), (x265003_1), (x265004_1), (x265005_1), (x265006_1), (x265007_1), (x265008_1), (x265009_1), (x265010_1), eq_now, H', ⟨by have := HK1.out; omega⟩, ⟨by (with_reducible repeat (first | apply Kd.R_alloc | apply Kd.R_drewN | apply Kd.R_drew)); exact HO_4.out⟩, ⟨bk_now⟩, ⟨bk_now⟩, ⟨b_now⟩⟩
    ·rw [if_neg c7] at H
     exact absurd H (by simp)
   ·rw [if_neg c6] at H
    have c6b0 : decide (x5_1 < (t265.length : Int)) = false := decide_eq_false c6
    clear c6
    simp only [Option.some.injEq, Prod.mk.injEq] at H
    obtain ⟨rfl, rfl, rfl, rfl, rfl, rfl, rfl, rfl, rfl, rfl, rfl, rfl⟩ := H
    obtain ⟨Ao43, co43, eo43⟩ := Kd.R_slice HO_4.out
    subst eo43
    have hnb44 := NB264_263.out
    have hnc44 := NB263_264.out
    have hcz45 := blk_all11 BK264.out
    go_wp2
    repeat (go_quiet (fail); try go_wp2)
    refine bodyPost_ret (results_ct rfl _ _ gb264 68 #[.int .u8 0, .int .i64 0, .int .i64 0, .int .i64 0, .bool false, .bool false, .int .i64 0, .int .i64 0, .int .i64 0, .int .i64 0, .int .i64 0] (0, 0) _ rfl bk_now Tryd.underlying68 rfl (by kernel_rfl)) rfl ?_
    exact ⟨ret_now, b_now⟩

/-! ### stockaderef02_wrong: function 36 -/
def stockaderef02_wrong.f (a0 : Int) (a1 : Int) : Option (Bool) := if a0 = 1 then (if a1 > 10 then (some true) else (if a0 = 2 then (some (decide (a1 > 9))) else (some false))) else (if a0 = 2 then (some (decide (a1 > 9))) else (some false))
set_option maxHeartbeats 8000000 in
set_option maxRecDepth 100000 in
theorem stockaderef02_wrong.calls (a0 : Int) (a1 : Int) (r : Bool) (w : World) (h : stockaderef02_wrong.f a0 a1 = some r) :
  Calls Tryd.prog 36 #[.int .i64 a0, .int .u8 a1] w fun e w' => e = .returned (.bool r) ∧ Drawn0 w w' := by
 have H : (if a0 = 1 then (if a1 > 10 then (some true) else (if a0 = 2 then (some (decide (a1 > 9))) else (some false))) else (if a0 = 2 then (some (decide (a1 > 9))) else (some false))) = some r := h
 clear h
 by_cases c3 : a0 = 1
 ·rw [if_pos c3] at H
  have c3b0 : (a0 == 1) = true := beq_iff_eq.mpr c3
  have c3b1 : (a0 != 1) = false := bne_eq_false_iff_eq.mpr c3
  clear c3
  by_cases c4 : a1 > 10
  ·rw [if_pos c4] at H
   have c4b0 : decide (10 < a1) = true := decide_eq_true c4
   clear c4
   obtain rfl := Option.some.inj H
   go_enter Tryd.func36, Tryd.ntmps36
   go_wp2
   go_ret
   exact ⟨by first | rfl | (simp; done) | (simp [*]; done), by repeat (first | exact Drawn0.refl _ | apply Drawn0.step)⟩
  ·rw [if_neg c4] at H
   have c4b0 : decide (10 < a1) = false := decide_eq_false c4
   clear c4
   by_cases c5 : a0 = 2
   ·rw [if_pos c5] at H
    have c5b0 : (a0 == 2) = true := beq_iff_eq.mpr c5
    have c5b1 : (a0 != 2) = false := bne_eq_false_iff_eq.mpr c5
    clear c5
    obtain rfl := Option.some.inj H
    go_enter Tryd.func36, Tryd.ntmps36
    go_wp2
    go_ret
    exact ⟨by first | rfl | (simp; done) | (simp [*]; done), by repeat (first | exact Drawn0.refl _ | apply Drawn0.step)⟩
   ·rw [if_neg c5] at H
    have c5b0 : (a0 == 2) = false := beq_eq_false_iff_ne.mpr c5
    have c5b1 : (a0 != 2) = true := bne_iff_ne.mpr c5
    obtain rfl := Option.some.inj H
    go_enter Tryd.func36, Tryd.ntmps36
    go_wp2
    go_ret
    exact ⟨by first | rfl | (simp; done) | (simp [*]; done), by repeat (first | exact Drawn0.refl _ | apply Drawn0.step)⟩
 ·rw [if_neg c3] at H
  have c3b0 : (a0 == 1) = false := beq_eq_false_iff_ne.mpr c3
  have c3b1 : (a0 != 1) = true := bne_iff_ne.mpr c3
  by_cases c6 : a0 = 2
  ·rw [if_pos c6] at H
   have c6b0 : (a0 == 2) = true := beq_iff_eq.mpr c6
   have c6b1 : (a0 != 2) = false := bne_eq_false_iff_eq.mpr c6
   clear c6
   obtain rfl := Option.some.inj H
   go_enter Tryd.func36, Tryd.ntmps36
   go_wp2
   go_ret
   exact ⟨by first | rfl | (simp; done) | (simp [*]; done), by repeat (first | exact Drawn0.refl _ | apply Drawn0.step)⟩
  ·rw [if_neg c6] at H
   have c6b0 : (a0 == 2) = false := beq_eq_false_iff_ne.mpr c6
   have c6b1 : (a0 != 2) = true := bne_iff_ne.mpr c6
   obtain rfl := Option.some.inj H
   go_enter Tryd.func36, Tryd.ntmps36
   go_wp2
   go_ret
   exact ⟨by first | rfl | (simp; done) | (simp [*]; done), by repeat (first | exact Drawn0.refl _ | apply Drawn0.step)⟩

end Go.Proofs.YtdhiibkcoolbeaaDoor.P
