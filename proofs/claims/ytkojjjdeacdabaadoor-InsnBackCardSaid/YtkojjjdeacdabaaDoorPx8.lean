/- Made by this session's driver over the kit's printer: for each Go function a Lean function with the same answers, and a proof that the Go call comes to these answers; no conditions but the ones each theorem names. -/
import Derived.Test.YtkojjjdeacdabaaDoorPx0
import Derived.Test.YtkojjjdeacdabaaDoorPx7
namespace Go.Proofs.YtkojjjdeacdabaaDoor.P
open Go.RowKit Go.Proofs.YtkojjjdeacdabaaDoorW.PrintWords Go.Proofs.YtkojjjdeacdabaaDoorW.PrintLast Go.Proofs.YtkojjjdeacdabaaDoorW.PrintMore
attribute [local go_sem] max2_int min2_int max_two min_two max_three min_three max_four min_four   -- for this text's walks alone
set_option linter.unusedVariables false
set_option linter.unusedSimpArgs false

/-! ### stockaderef02_Find: function 32 -/
def stockaderef02_Find.l0 : Nat → List (S65) → Int → Int → Int → Int → Int → Int → Option (Int × Int × Int × Int × Bool × Bool × Int × Int × Int × Int × Int × Bool)
 | 0, _, _, _, _, _, _, _ => none
 | k + 1, x4, x5, x213000, x213001, x213002, x213003, x213004 => if x5 < (x4.length : Int) then (if 0 ≤ x5 then (if ((rd_T65 x4 x5).f0) = x213000 then (if ((rd_T65 x4 x5).f3) = 4 then (if (wrap64 (x213002)) = ((rd_T65 x4 x5).f6) then (if ((rd_T65 x4 x5).f5) = 4 then (if (wrap64 (x213004)) = ((rd_T65 x4 x5).f6) then (some ((rd_T65 x4 x5).f0, (rd_T65 x4 x5).f1.f0, (rd_T65 x4 x5).f1.f1, (rd_T65 x4 x5).f1.f2, (rd_T65 x4 x5).f1.f3, (rd_T65 x4 x5).f1.f4, (rd_T65 x4 x5).f2, (rd_T65 x4 x5).f3, (rd_T65 x4 x5).f4, (rd_T65 x4 x5).f5, (rd_T65 x4 x5).f6, true)) else (stockaderef02_Find.l0 k x4 (wrap64 (x5 + 1)) x213000 x213001 x213002 x213003 x213004)) else (some ((rd_T65 x4 x5).f0, (rd_T65 x4 x5).f1.f0, (rd_T65 x4 x5).f1.f1, (rd_T65 x4 x5).f1.f2, (rd_T65 x4 x5).f1.f3, (rd_T65 x4 x5).f1.f4, (rd_T65 x4 x5).f2, (rd_T65 x4 x5).f3, (rd_T65 x4 x5).f4, (rd_T65 x4 x5).f5, (rd_T65 x4 x5).f6, true))) else (stockaderef02_Find.l0 k x4 (wrap64 (x5 + 1)) x213000 x213001 x213002 x213003 x213004)) else (if ((rd_T65 x4 x5).f5) = 4 then (if (wrap64 (x213004)) = ((rd_T65 x4 x5).f6) then (some ((rd_T65 x4 x5).f0, (rd_T65 x4 x5).f1.f0, (rd_T65 x4 x5).f1.f1, (rd_T65 x4 x5).f1.f2, (rd_T65 x4 x5).f1.f3, (rd_T65 x4 x5).f1.f4, (rd_T65 x4 x5).f2, (rd_T65 x4 x5).f3, (rd_T65 x4 x5).f4, (rd_T65 x4 x5).f5, (rd_T65 x4 x5).f6, true)) else (stockaderef02_Find.l0 k x4 (wrap64 (x5 + 1)) x213000 x213001 x213002 x213003 x213004)) else (some ((rd_T65 x4 x5).f0, (rd_T65 x4 x5).f1.f0, (rd_T65 x4 x5).f1.f1, (rd_T65 x4 x5).f1.f2, (rd_T65 x4 x5).f1.f3, (rd_T65 x4 x5).f1.f4, (rd_T65 x4 x5).f2, (rd_T65 x4 x5).f3, (rd_T65 x4 x5).f4, (rd_T65 x4 x5).f5, (rd_T65 x4 x5).f6, true)))) else (stockaderef02_Find.l0 k x4 (wrap64 (x5 + 1)) x213000 x213001 x213002 x213003 x213004)) else (none)) else (some (0, 0, 0, 0, false, false, 0, 0, 0, 0, 0, false))
def stockaderef02_Find.f (k : Nat) (a0_0 : Int) (a0_1 : Int) (a0_2 : Int) (a0_3 : Int) (a0_4 : Int) : Option (Int × Int × Int × Int × Bool × Bool × Int × Int × Int × Int × Int × Bool) := (stockaderef02_Rows.f k).bind fun t214 => (stockaderef02_Find.l0 k t214 0 a0_0 a0_1 a0_2 a0_3 a0_4)
theorem stockaderef02_Find.mono_l : ∀ k, (∀ y0 y1 y2 y3 y4 y5 y6, LeO (stockaderef02_Find.l0 k y0 y1 y2 y3 y4 y5 y6) (stockaderef02_Find.l0 (k + 1) y0 y1 y2 y3 y4 y5 y6))
 | 0 => fun _ _ _ _ _ _ _ r h => by simp [stockaderef02_Find.l0] at h
 | k + 1 => by
  have ih0 := stockaderef02_Find.mono_l k
  ·intro y0 y1 y2 y3 y4 y5 y6
   unfold stockaderef02_Find.l0
   repeat' first
   | (with_reducible exact ih0 _ _ _ _ _ _ _)
   | (with_reducible exact stockaderef02_Rows.mono _)
   | (with_reducible exact LeO.refl _)
   | (with_reducible exact LeO.none _)
   | (with_reducible refine LeO.ite ?_ ?_)
   | (with_reducible refine LeO.bind ?_ (fun _ => ?_))
   | exact ih0 _ _ _ _ _ _ _
   | exact stockaderef02_Rows.mono _
   | exact LeO.none _
   | refine LeO.ite ?_ ?_
   | refine LeO.bind ?_ (fun _ => ?_)
theorem stockaderef02_Find.mono : ∀ a0 a1 a2 a3 a4 k, LeO (stockaderef02_Find.f k a0 a1 a2 a3 a4) (stockaderef02_Find.f (k + 1) a0 a1 a2 a3 a4) := by
 intro a0 a1 a2 a3 a4 k
 have ih0 := stockaderef02_Find.mono_l k
 unfold stockaderef02_Find.f
 repeat' first
   | (with_reducible exact ih0 _ _ _ _ _ _ _)
   | (with_reducible exact stockaderef02_Rows.mono _)
   | (with_reducible exact LeO.refl _)
   | (with_reducible exact LeO.none _)
   | (with_reducible refine LeO.ite ?_ ?_)
   | (with_reducible refine LeO.bind ?_ (fun _ => ?_))
   | exact ih0 _ _ _ _ _ _ _
   | exact stockaderef02_Rows.mono _
   | exact LeO.none _
   | refine LeO.ite ?_ ?_
   | refine LeO.bind ?_ (fun _ => ?_)
set_option maxHeartbeats 8000000 in
set_option maxRecDepth 100000 in
theorem stockaderef02_Find.calls (k : Nat) (a0_0 : Int) (a0_1 : Int) (a0_2 : Int) (a0_3 : Int) (a0_4 : Int) (r1 : Int) (r2 : Int) (r3 : Int) (r4 : Int) (r5 : Bool) (r6 : Bool) (r7 : Int) (r8 : Int) (r9 : Int) (r10 : Int) (r11 : Int) (r12 : Bool) (w : World) (h : stockaderef02_Find.f k a0_0 a0_1 a0_2 a0_3 a0_4 = some (r1, r2, r3, r4, r5, r6, r7, r8, r9, r10, r11, r12)) :
  Calls Tryd.prog 32 #[.agg #[.int .u8 a0_0, .int .u8 a0_1, .int .u8 a0_2, .int .i16 a0_3, .int .i32 a0_4]] w fun e w' => e = .returned (.tuple #[.agg #[.int .u8 r1, .int .i64 r2, .int .i64 r3, .int .i64 r4, .bool r5, .bool r6, .int .i64 r7, .int .i64 r8, .int .i64 r9, .int .i64 r10, .int .i64 r11], .bool r12]) ∧ Below w.heap.size w w' := by
 have hu24 := Tryd.underlying24
 have hu65 := Tryd.underlying65
 have HB := Aside0.mk (Below.refl w.heap.size w)
 have H : ((stockaderef02_Rows.f k).bind fun t214 => (stockaderef02_Find.l0 k t214 0 a0_0 a0_1 a0_2 a0_3 a0_4)) = some (r1, r2, r3, r4, r5, r6, r7, r8, r9, r10, r11, r12) := h
 clear h
 replace H := Option.bind_eq_some_iff.mp H; obtain ⟨t214, A20, H⟩ := H; try dsimp only at H
 have A2 := Aside0.mk A20
 clear A20
 have H' := Aside0.mk H
 clear H
 go_enter Tryd.func32, Tryd.ntmps32
 go_wp2_with (first | ((with_reducible refine gate_dst (N := 1) rfl ?_); refine sh_box 1 #[.int .u8 a0_0, .int .u8 a0_1, .int .u8 a0_2, .int .i16 a0_3, .int .i32 a0_4] 24 ?_; intro gb212 hg w3 hbox hb; have GE212 := sh_z (w := w) hg; replace HB := sh_b (w := w) hb; have BK212 := Aside0.mk (hbox); clear hb hbox hg) | ((with_reducible refine gate_dst (N := 2) rfl ?_); refine sh_box 2 #[.int .u8 0, .int .i64 0, .int .i64 0, .int .i64 0, .bool false, .bool false, .int .i64 0, .int .i64 0, .int .i64 0, .int .i64 0, .int .i64 0] 65 ?_; intro gb213 hg w4 hbox hb; have GE213 := sh_z (w := w) hg; have NB212_213 := sh_n BK212 hg; have NB213_212 := sh_s NB212_213; replace BK212 := sh_k BK212 hb; replace HB := sh_b (w := w) hb; have BK213 := Aside0.mk (hbox); clear hb hbox hg) | (go_at_call 34; (with_reducible refine (stockaderef02_Rows.calls k  t214 _ A2.out).mono ?_); rintro e w5 ⟨v215, rfl, ho0, hb⟩; have HO216 := Aside0.mk (Kd.R_lower (Kd.R_newB ho0 (g := gb213) (o := .cells #[.int .u8 0, .int .i64 0, .int .i64 0, .int .i64 0, .bool false, .bool false, .int .i64 0, .int .i64 0, .int .i64 0, .int .i64 0, .int .i64 0] 65 (0, 0)) bk_now) (below_size b_now)); replace BK212 := sh_k BK212 hb; replace BK213 := sh_k BK213 hb; replace HB := sh_b (w := w) hb; (try clear hb); (try clear hb2); (try clear hk); (try clear hi); (try clear ho0)))
 repeat (go_quiet (first | ((with_reducible refine gate_dst (N := 1) rfl ?_); refine sh_box 1 #[.int .u8 a0_0, .int .u8 a0_1, .int .u8 a0_2, .int .i16 a0_3, .int .i32 a0_4] 24 ?_; intro gb212 hg w3 hbox hb; have GE212 := sh_z (w := w) hg; replace HB := sh_b (w := w) hb; have BK212 := Aside0.mk (hbox); clear hb hbox hg) | ((with_reducible refine gate_dst (N := 2) rfl ?_); refine sh_box 2 #[.int .u8 0, .int .i64 0, .int .i64 0, .int .i64 0, .bool false, .bool false, .int .i64 0, .int .i64 0, .int .i64 0, .int .i64 0, .int .i64 0] 65 ?_; intro gb213 hg w4 hbox hb; have GE213 := sh_z (w := w) hg; have NB212_213 := sh_n BK212 hg; have NB213_212 := sh_s NB212_213; replace BK212 := sh_k BK212 hb; replace HB := sh_b (w := w) hb; have BK213 := Aside0.mk (hbox); clear hb hbox hg) | (go_at_call 34; (with_reducible refine (stockaderef02_Rows.calls k  t214 _ A2.out).mono ?_); rintro e w5 ⟨v215, rfl, ho0, hb⟩; have HO216 := Aside0.mk (Kd.R_lower (Kd.R_newB ho0 (g := gb213) (o := .cells #[.int .u8 0, .int .i64 0, .int .i64 0, .int .i64 0, .bool false, .bool false, .int .i64 0, .int .i64 0, .int .i64 0, .int .i64 0, .int .i64 0] 65 (0, 0)) bk_now) (below_size b_now)); replace BK212 := sh_k BK212 hb; replace BK213 := sh_k BK213 hb; replace HB := sh_b (w := w) hb; (try clear hb); (try clear hb2); (try clear hk); (try clear hi); (try clear ho0))); try go_wp2_with (first | ((with_reducible refine gate_dst (N := 1) rfl ?_); refine sh_box 1 #[.int .u8 a0_0, .int .u8 a0_1, .int .u8 a0_2, .int .i16 a0_3, .int .i32 a0_4] 24 ?_; intro gb212 hg w3 hbox hb; have GE212 := sh_z (w := w) hg; replace HB := sh_b (w := w) hb; have BK212 := Aside0.mk (hbox); clear hb hbox hg) | ((with_reducible refine gate_dst (N := 2) rfl ?_); refine sh_box 2 #[.int .u8 0, .int .i64 0, .int .i64 0, .int .i64 0, .bool false, .bool false, .int .i64 0, .int .i64 0, .int .i64 0, .int .i64 0, .int .i64 0] 65 ?_; intro gb213 hg w4 hbox hb; have GE213 := sh_z (w := w) hg; have NB212_213 := sh_n BK212 hg; have NB213_212 := sh_s NB212_213; replace BK212 := sh_k BK212 hb; replace HB := sh_b (w := w) hb; have BK213 := Aside0.mk (hbox); clear hb hbox hg) | (go_at_call 34; (with_reducible refine (stockaderef02_Rows.calls k  t214 _ A2.out).mono ?_); rintro e w5 ⟨v215, rfl, ho0, hb⟩; have HO216 := Aside0.mk (Kd.R_lower (Kd.R_newB ho0 (g := gb213) (o := .cells #[.int .u8 0, .int .i64 0, .int .i64 0, .int .i64 0, .bool false, .bool false, .int .i64 0, .int .i64 0, .int .i64 0, .int .i64 0, .int .i64 0] 65 (0, 0)) bk_now) (below_size b_now)); replace BK212 := sh_k BK212 hb; replace BK213 := sh_k BK213 hb; replace HB := sh_b (w := w) hb; (try clear hb); (try clear hb2); (try clear hk); (try clear hi); (try clear ho0))))
 go_loopg [5] k (fun kq v5 w' => ∃ (x5_1 : Int) (x214000_1 : Int) (x214001_1 : Int) (x214002_1 : Int) (x214003_1 : Int) (x214004_1 : Bool) (x214005_1 : Bool) (x214006_1 : Int) (x214007_1 : Int) (x214008_1 : Int) (x214009_1 : Int) (x214010_1 : Int), v5 = .int .i64 x5_1 ∧ Aside0 (stockaderef02_Find.l0 kq t214 x5_1 a0_0 a0_1 a0_2 a0_3 a0_4 = some (r1, r2, r3, r4, r5, r6, r7, r8, r9, r10, r11, r12)) ∧ Aside0 (kq ≤ k) ∧ Aside0 (Kd.R k65 65 w' w.heap.size (fun k_ => k_ ≠ gb213) v215 t214) ∧ Aside0 (w'.heap[gb212]? = some (.cells #[.int .u8 a0_0, .int .u8 a0_1, .int .u8 a0_2, .int .i16 a0_3, .int .i32 a0_4] 24 (0, 0))) ∧ Aside0 (w'.heap[gb213]? = some (.cells #[.int .u8 x214000_1, .int .i64 x214001_1, .int .i64 x214002_1, .int .i64 x214003_1, .bool x214004_1, .bool x214005_1, .int .i64 x214006_1, .int .i64 x214007_1, .int .i64 x214008_1, .int .i64 x214009_1, .int .i64 x214010_1] 65 (0, 0))) ∧ Aside0 (Below w.heap.size w w'))
 case atStart => exact ⟨(0), (0), (0), (0), (0), (false), (false), (0), (0), (0), (0), (0), eq_now, H', ⟨Nat.le_refl _⟩, ⟨by (with_reducible repeat (first | apply Kd.R_alloc | apply Kd.R_drewN | apply Kd.R_drew)); exact Kd.R_mono HO216.out (fun _ hk => hk.2)⟩, ⟨bk_now⟩, ⟨bk_now⟩, ⟨b_now⟩⟩
 case round =>
  clear H'
  try clear p2
  try clear c3
  obtain ⟨x5_1, x214000_1, x214001_1, x214002_1, x214003_1, x214004_1, x214005_1, x214006_1, x214007_1, x214008_1, x214009_1, x214010_1, rfl, HA, HK1, HO_4, BK212, BK213, HB⟩ := hrel
  cases gk with
  | zero => exact absurd HA.out (by simp [stockaderef02_Find.l0])
  | succ k1 =>
   have H := HA.out
   clear HA
   simp only [stockaderef02_Find.l0] at H
   by_cases c6 : x5_1 < (t214.length : Int)
   ·rw [if_pos c6] at H
    have c6b0 : decide (x5_1 < (t214.length : Int)) = true := decide_eq_true c6
    clear c6
    by_cases c7 : 0 ≤ x5_1
    ·rw [if_pos c7] at H
     have c7b0 : decide (0 ≤ x5_1) = true := decide_eq_true c7
     clear c7
     by_cases c8 : ((rd_T65 t214 x5_1).f0) = a0_0
     ·rw [if_pos c8] at H
      have c8b0 : (((rd_T65 t214 x5_1).f0) == a0_0) = true := beq_iff_eq.mpr c8
      have c8b1 : (((rd_T65 t214 x5_1).f0) != a0_0) = false := bne_eq_false_iff_eq.mpr c8
      clear c8
      by_cases c9 : ((rd_T65 t214 x5_1).f3) = 4
      ·rw [if_pos c9] at H
       have c9b0 : (((rd_T65 t214 x5_1).f3) == 4) = true := beq_iff_eq.mpr c9
       have c9b1 : (((rd_T65 t214 x5_1).f3) != 4) = false := bne_eq_false_iff_eq.mpr c9
       clear c9
       by_cases c10 : (wrap64 (a0_2)) = ((rd_T65 t214 x5_1).f6)
       ·rw [if_pos c10] at H
        have c10b0 : ((wrap64 (a0_2)) == ((rd_T65 t214 x5_1).f6)) = true := beq_iff_eq.mpr c10
        have c10b1 : ((wrap64 (a0_2)) != ((rd_T65 t214 x5_1).f6)) = false := bne_eq_false_iff_eq.mpr c10
        clear c10
        by_cases c11 : ((rd_T65 t214 x5_1).f5) = 4
        ·rw [if_pos c11] at H
         have c11b0 : (((rd_T65 t214 x5_1).f5) == 4) = true := beq_iff_eq.mpr c11
         have c11b1 : (((rd_T65 t214 x5_1).f5) != 4) = false := bne_eq_false_iff_eq.mpr c11
         clear c11
         by_cases c12 : (wrap64 (a0_4)) = ((rd_T65 t214 x5_1).f6)
         ·rw [if_pos c12] at H
          have c12b0 : ((wrap64 (a0_4)) == ((rd_T65 t214 x5_1).f6)) = true := beq_iff_eq.mpr c12
          have c12b1 : ((wrap64 (a0_4)) != ((rd_T65 t214 x5_1).f6)) = false := bne_eq_false_iff_eq.mpr c12
          clear c12
          simp only [Option.some.injEq, Prod.mk.injEq] at H
          obtain ⟨rfl, rfl, rfl, rfl, rfl, rfl, rfl, rfl, rfl, rfl, rfl, rfl⟩ := H
          obtain ⟨Ao13, co13, eo13⟩ := Kd.R_slice HO_4.out
          subst eo13
          have p217 : 0 ≤ (x5_1 : Int) := of_decide_eq_true (by first | (with_reducible assumption) | assumption)
          have q217 : x5_1 < (t214.length : Int) := of_decide_eq_true (by first | (with_reducible assumption) | assumption)
          obtain ⟨ad217, e217, hx217_0, hx217_1, hx217_2, hx217_3, hx217_4, hx217_5, hx217_6, hx217_7, hx217_8, hx217_9, hx217_10⟩ := at_T65 (Kd.R_reads' HO_4.out).2.2 x5_1 p217 q217
          cases e217
          replace p217 := eq_true p217
          replace q217 := eq_true q217
          have hnb14 := NB212_213.out
          have hnc14 := NB213_212.out
          have hcz15 := blk_all5 BK212.out
          have p218 : 0 ≤ (x5_1 : Int) := of_decide_eq_true (by first | (with_reducible assumption) | assumption)
          have q218 : x5_1 < (t214.length : Int) := of_decide_eq_true (by first | (with_reducible assumption) | assumption)
          obtain ⟨ad218, e218, hx218_0, hx218_1, hx218_2, hx218_3, hx218_4, hx218_5, hx218_6, hx218_7, hx218_8, hx218_9, hx218_10⟩ := at_T65 (Kd.R_reads' HO_4.out).2.2 x5_1 p218 q218
          obtain rfl : ad217 = ad218 := (by injection e218)
          replace p218 := eq_true p218
          replace q218 := eq_true q218
          have p219 : 0 ≤ (x5_1 : Int) := of_decide_eq_true (by first | (with_reducible assumption) | assumption)
          have q219 : x5_1 < (t214.length : Int) := of_decide_eq_true (by first | (with_reducible assumption) | assumption)
          obtain ⟨ad219, e219, hx219_0, hx219_1, hx219_2, hx219_3, hx219_4, hx219_5, hx219_6, hx219_7, hx219_8, hx219_9, hx219_10⟩ := at_T65 (Kd.R_reads' HO_4.out).2.2 x5_1 p219 q219
          obtain rfl : ad217 = ad219 := (by injection e219)
          replace p219 := eq_true p219
          replace q219 := eq_true q219
          have p220 : 0 ≤ (x5_1 : Int) := of_decide_eq_true (by first | (with_reducible assumption) | assumption)
          have q220 : x5_1 < (t214.length : Int) := of_decide_eq_true (by first | (with_reducible assumption) | assumption)
          obtain ⟨ad220, e220, hx220_0, hx220_1, hx220_2, hx220_3, hx220_4, hx220_5, hx220_6, hx220_7, hx220_8, hx220_9, hx220_10⟩ := at_T65 (Kd.R_reads' HO_4.out).2.2 x5_1 p220 q220
          obtain rfl : ad217 = ad220 := (by injection e220)
          replace p220 := eq_true p220
          replace q220 := eq_true q220
          have p221 : 0 ≤ (x5_1 : Int) := of_decide_eq_true (by first | (with_reducible assumption) | assumption)
          have q221 : x5_1 < (t214.length : Int) := of_decide_eq_true (by first | (with_reducible assumption) | assumption)
          obtain ⟨ad221, e221, hx221_0, hx221_1, hx221_2, hx221_3, hx221_4, hx221_5, hx221_6, hx221_7, hx221_8, hx221_9, hx221_10⟩ := at_T65 (Kd.R_reads' HO_4.out).2.2 x5_1 p221 q221
          obtain rfl : ad217 = ad221 := (by injection e221)
          replace p221 := eq_true p221
          replace q221 := eq_true q221
          have p222 : 0 ≤ (x5_1 : Int) := of_decide_eq_true (by first | (with_reducible assumption) | assumption)
          have q222 : x5_1 < (t214.length : Int) := of_decide_eq_true (by first | (with_reducible assumption) | assumption)
          obtain ⟨ad222, e222, hx222_0, hx222_1, hx222_2, hx222_3, hx222_4, hx222_5, hx222_6, hx222_7, hx222_8, hx222_9, hx222_10⟩ := at_T65 (Kd.R_reads' HO_4.out).2.2 x5_1 p222 q222
          obtain rfl : ad217 = ad222 := (by injection e222)
          replace p222 := eq_true p222
          replace q222 := eq_true q222
          have hcz16 := blk_all11 BK213.out
          go_wp2
          repeat (go_quiet (fail); try go_wp2)
          refine bodyPost_ret (results_ct rfl _ _ gb213 65 #[.int .u8 ((rd_T65 t214 x5_1).f0), .int .i64 ((rd_T65 t214 x5_1).f1.f0), .int .i64 ((rd_T65 t214 x5_1).f1.f1), .int .i64 ((rd_T65 t214 x5_1).f1.f2), .bool ((rd_T65 t214 x5_1).f1.f3), .bool ((rd_T65 t214 x5_1).f1.f4), .int .i64 ((rd_T65 t214 x5_1).f2), .int .i64 ((rd_T65 t214 x5_1).f3), .int .i64 ((rd_T65 t214 x5_1).f4), .int .i64 ((rd_T65 t214 x5_1).f5), .int .i64 ((rd_T65 t214 x5_1).f6)] (0, 0) _ rfl bk_now Tryd.underlying65 rfl (by kernel_rfl)) rfl ?_
          exact ⟨ret_now, b_now⟩
         ·rw [if_neg c12] at H
          have c12b0 : ((wrap64 (a0_4)) == ((rd_T65 t214 x5_1).f6)) = false := beq_eq_false_iff_ne.mpr c12
          have c12b1 : ((wrap64 (a0_4)) != ((rd_T65 t214 x5_1).f6)) = true := bne_iff_ne.mpr c12
          have H' := Aside0.mk H
          clear H
          obtain ⟨Ao17, co17, eo17⟩ := Kd.R_slice HO_4.out
          subst eo17
          have p217 : 0 ≤ (x5_1 : Int) := of_decide_eq_true (by first | (with_reducible assumption) | assumption)
          have q217 : x5_1 < (t214.length : Int) := of_decide_eq_true (by first | (with_reducible assumption) | assumption)
          obtain ⟨ad217, e217, hx217_0, hx217_1, hx217_2, hx217_3, hx217_4, hx217_5, hx217_6, hx217_7, hx217_8, hx217_9, hx217_10⟩ := at_T65 (Kd.R_reads' HO_4.out).2.2 x5_1 p217 q217
          cases e217
          replace p217 := eq_true p217
          replace q217 := eq_true q217
          have hnb18 := NB212_213.out
          have hnc18 := NB213_212.out
          have hcz19 := blk_all5 BK212.out
          have p218 : 0 ≤ (x5_1 : Int) := of_decide_eq_true (by first | (with_reducible assumption) | assumption)
          have q218 : x5_1 < (t214.length : Int) := of_decide_eq_true (by first | (with_reducible assumption) | assumption)
          obtain ⟨ad218, e218, hx218_0, hx218_1, hx218_2, hx218_3, hx218_4, hx218_5, hx218_6, hx218_7, hx218_8, hx218_9, hx218_10⟩ := at_T65 (Kd.R_reads' HO_4.out).2.2 x5_1 p218 q218
          obtain rfl : ad217 = ad218 := (by injection e218)
          replace p218 := eq_true p218
          replace q218 := eq_true q218
          have p219 : 0 ≤ (x5_1 : Int) := of_decide_eq_true (by first | (with_reducible assumption) | assumption)
          have q219 : x5_1 < (t214.length : Int) := of_decide_eq_true (by first | (with_reducible assumption) | assumption)
          obtain ⟨ad219, e219, hx219_0, hx219_1, hx219_2, hx219_3, hx219_4, hx219_5, hx219_6, hx219_7, hx219_8, hx219_9, hx219_10⟩ := at_T65 (Kd.R_reads' HO_4.out).2.2 x5_1 p219 q219
          obtain rfl : ad217 = ad219 := (by injection e219)
          replace p219 := eq_true p219
          replace q219 := eq_true q219
          have p220 : 0 ≤ (x5_1 : Int) := of_decide_eq_true (by first | (with_reducible assumption) | assumption)
          have q220 : x5_1 < (t214.length : Int) := of_decide_eq_true (by first | (with_reducible assumption) | assumption)
          obtain ⟨ad220, e220, hx220_0, hx220_1, hx220_2, hx220_3, hx220_4, hx220_5, hx220_6, hx220_7, hx220_8, hx220_9, hx220_10⟩ := at_T65 (Kd.R_reads' HO_4.out).2.2 x5_1 p220 q220
          obtain rfl : ad217 = ad220 := (by injection e220)
          replace p220 := eq_true p220
          replace q220 := eq_true q220
          have p221 : 0 ≤ (x5_1 : Int) := of_decide_eq_true (by first | (with_reducible assumption) | assumption)
          have q221 : x5_1 < (t214.length : Int) := of_decide_eq_true (by first | (with_reducible assumption) | assumption)
          obtain ⟨ad221, e221, hx221_0, hx221_1, hx221_2, hx221_3, hx221_4, hx221_5, hx221_6, hx221_7, hx221_8, hx221_9, hx221_10⟩ := at_T65 (Kd.R_reads' HO_4.out).2.2 x5_1 p221 q221
          obtain rfl : ad217 = ad221 := (by injection e221)
          replace p221 := eq_true p221
          replace q221 := eq_true q221
          go_wp2
          repeat (go_quiet (fail); try go_wp2)
          go_roundg k1
          case measure => have := HK1.out; omega
          case rel => exact ⟨(wrap64 (x5_1 + 1)), (x214000_1), (x214001_1), (x214002_1), (x214003_1), (x214004_1), (x214005_1), (x214006_1), (x214007_1), (x214008_1), (x214009_1), (x214010_1), eq_now, H', ⟨by have := HK1.out; omega⟩, ⟨by (with_reducible repeat (first | apply Kd.R_alloc | apply Kd.R_drewN | apply Kd.R_drew)); exact HO_4.out⟩, ⟨bk_now⟩, ⟨bk_now⟩, ⟨b_now⟩⟩
        ·rw [if_neg c11] at H
         have c11b0 : (((rd_T65 t214 x5_1).f5) == 4) = false := beq_eq_false_iff_ne.mpr c11
         have c11b1 : (((rd_T65 t214 x5_1).f5) != 4) = true := bne_iff_ne.mpr c11
         simp only [Option.some.injEq, Prod.mk.injEq] at H
         obtain ⟨rfl, rfl, rfl, rfl, rfl, rfl, rfl, rfl, rfl, rfl, rfl, rfl⟩ := H
         obtain ⟨Ao20, co20, eo20⟩ := Kd.R_slice HO_4.out
         subst eo20
         have p217 : 0 ≤ (x5_1 : Int) := of_decide_eq_true (by first | (with_reducible assumption) | assumption)
         have q217 : x5_1 < (t214.length : Int) := of_decide_eq_true (by first | (with_reducible assumption) | assumption)
         obtain ⟨ad217, e217, hx217_0, hx217_1, hx217_2, hx217_3, hx217_4, hx217_5, hx217_6, hx217_7, hx217_8, hx217_9, hx217_10⟩ := at_T65 (Kd.R_reads' HO_4.out).2.2 x5_1 p217 q217
         cases e217
         replace p217 := eq_true p217
         replace q217 := eq_true q217
         have hnb21 := NB212_213.out
         have hnc21 := NB213_212.out
         have hcz22 := blk_all5 BK212.out
         have p218 : 0 ≤ (x5_1 : Int) := of_decide_eq_true (by first | (with_reducible assumption) | assumption)
         have q218 : x5_1 < (t214.length : Int) := of_decide_eq_true (by first | (with_reducible assumption) | assumption)
         obtain ⟨ad218, e218, hx218_0, hx218_1, hx218_2, hx218_3, hx218_4, hx218_5, hx218_6, hx218_7, hx218_8, hx218_9, hx218_10⟩ := at_T65 (Kd.R_reads' HO_4.out).2.2 x5_1 p218 q218
         obtain rfl : ad217 = ad218 := (by injection e218)
         replace p218 := eq_true p218
         replace q218 := eq_true q218
         have p219 : 0 ≤ (x5_1 : Int) := of_decide_eq_true (by first | (with_reducible assumption) | assumption)
         have q219 : x5_1 < (t214.length : Int) := of_decide_eq_true (by first | (with_reducible assumption) | assumption)
         obtain ⟨ad219, e219, hx219_0, hx219_1, hx219_2, hx219_3, hx219_4, hx219_5, hx219_6, hx219_7, hx219_8, hx219_9, hx219_10⟩ := at_T65 (Kd.R_reads' HO_4.out).2.2 x5_1 p219 q219
         obtain rfl : ad217 = ad219 := (by injection e219)
         replace p219 := eq_true p219
         replace q219 := eq_true q219
         have p220 : 0 ≤ (x5_1 : Int) := of_decide_eq_true (by first | (with_reducible assumption) | assumption)
         have q220 : x5_1 < (t214.length : Int) := of_decide_eq_true (by first | (with_reducible assumption) | assumption)
         obtain ⟨ad220, e220, hx220_0, hx220_1, hx220_2, hx220_3, hx220_4, hx220_5, hx220_6, hx220_7, hx220_8, hx220_9, hx220_10⟩ := at_T65 (Kd.R_reads' HO_4.out).2.2 x5_1 p220 q220
         obtain rfl : ad217 = ad220 := (by injection e220)
         replace p220 := eq_true p220
         replace q220 := eq_true q220
         have p223 : 0 ≤ (x5_1 : Int) := of_decide_eq_true (by first | (with_reducible assumption) | assumption)
         have q223 : x5_1 < (t214.length : Int) := of_decide_eq_true (by first | (with_reducible assumption) | assumption)
         obtain ⟨ad223, e223, hx223_0, hx223_1, hx223_2, hx223_3, hx223_4, hx223_5, hx223_6, hx223_7, hx223_8, hx223_9, hx223_10⟩ := at_T65 (Kd.R_reads' HO_4.out).2.2 x5_1 p223 q223
         obtain rfl : ad217 = ad223 := (by injection e223)
         replace p223 := eq_true p223
         replace q223 := eq_true q223
         have hcz23 := blk_all11 BK213.out
         go_wp2
         repeat (go_quiet (fail); try go_wp2)
         refine bodyPost_ret (results_ct rfl _ _ gb213 65 #[.int .u8 ((rd_T65 t214 x5_1).f0), .int .i64 ((rd_T65 t214 x5_1).f1.f0), .int .i64 ((rd_T65 t214 x5_1).f1.f1), .int .i64 ((rd_T65 t214 x5_1).f1.f2), .bool ((rd_T65 t214 x5_1).f1.f3), .bool ((rd_T65 t214 x5_1).f1.f4), .int .i64 ((rd_T65 t214 x5_1).f2), .int .i64 ((rd_T65 t214 x5_1).f3), .int .i64 ((rd_T65 t214 x5_1).f4), .int .i64 ((rd_T65 t214 x5_1).f5), .int .i64 ((rd_T65 t214 x5_1).f6)] (0, 0) _ rfl bk_now Tryd.underlying65 rfl (by kernel_rfl)) rfl ?_
         exact ⟨ret_now, b_now⟩
       ·rw [if_neg c10] at H
        have c10b0 : ((wrap64 (a0_2)) == ((rd_T65 t214 x5_1).f6)) = false := beq_eq_false_iff_ne.mpr c10
        have c10b1 : ((wrap64 (a0_2)) != ((rd_T65 t214 x5_1).f6)) = true := bne_iff_ne.mpr c10
        have H' := Aside0.mk H
        clear H
        obtain ⟨Ao24, co24, eo24⟩ := Kd.R_slice HO_4.out
        subst eo24
        have p217 : 0 ≤ (x5_1 : Int) := of_decide_eq_true (by first | (with_reducible assumption) | assumption)
        have q217 : x5_1 < (t214.length : Int) := of_decide_eq_true (by first | (with_reducible assumption) | assumption)
        obtain ⟨ad217, e217, hx217_0, hx217_1, hx217_2, hx217_3, hx217_4, hx217_5, hx217_6, hx217_7, hx217_8, hx217_9, hx217_10⟩ := at_T65 (Kd.R_reads' HO_4.out).2.2 x5_1 p217 q217
        cases e217
        replace p217 := eq_true p217
        replace q217 := eq_true q217
        have hnb25 := NB212_213.out
        have hnc25 := NB213_212.out
        have hcz26 := blk_all5 BK212.out
        have p218 : 0 ≤ (x5_1 : Int) := of_decide_eq_true (by first | (with_reducible assumption) | assumption)
        have q218 : x5_1 < (t214.length : Int) := of_decide_eq_true (by first | (with_reducible assumption) | assumption)
        obtain ⟨ad218, e218, hx218_0, hx218_1, hx218_2, hx218_3, hx218_4, hx218_5, hx218_6, hx218_7, hx218_8, hx218_9, hx218_10⟩ := at_T65 (Kd.R_reads' HO_4.out).2.2 x5_1 p218 q218
        obtain rfl : ad217 = ad218 := (by injection e218)
        replace p218 := eq_true p218
        replace q218 := eq_true q218
        have p219 : 0 ≤ (x5_1 : Int) := of_decide_eq_true (by first | (with_reducible assumption) | assumption)
        have q219 : x5_1 < (t214.length : Int) := of_decide_eq_true (by first | (with_reducible assumption) | assumption)
        obtain ⟨ad219, e219, hx219_0, hx219_1, hx219_2, hx219_3, hx219_4, hx219_5, hx219_6, hx219_7, hx219_8, hx219_9, hx219_10⟩ := at_T65 (Kd.R_reads' HO_4.out).2.2 x5_1 p219 q219
        obtain rfl : ad217 = ad219 := (by injection e219)
        replace p219 := eq_true p219
        replace q219 := eq_true q219
        go_wp2
        repeat (go_quiet (fail); try go_wp2)
        go_roundg k1
        case measure => have := HK1.out; omega
        case rel => exact ⟨(wrap64 (x5_1 + 1)), (x214000_1), (x214001_1), (x214002_1), (x214003_1), (x214004_1), (x214005_1), (x214006_1), (x214007_1), (x214008_1), (x214009_1), (x214010_1), eq_now, H', ⟨by have := HK1.out; omega⟩, ⟨by (with_reducible repeat (first | apply Kd.R_alloc | apply Kd.R_drewN | apply Kd.R_drew)); exact HO_4.out⟩, ⟨bk_now⟩, ⟨bk_now⟩, ⟨b_now⟩⟩
      ·rw [if_neg c9] at H
       have c9b0 : (((rd_T65 t214 x5_1).f3) == 4) = false := beq_eq_false_iff_ne.mpr c9
       have c9b1 : (((rd_T65 t214 x5_1).f3) != 4) = true := bne_iff_ne.mpr c9
       by_cases c27 : ((rd_T65 t214 x5_1).f5) = 4
       ·rw [if_pos c27] at H
        have c27b0 : (((rd_T65 t214 x5_1).f5) == 4) = true := beq_iff_eq.mpr c27
        have c27b1 : (((rd_T65 t214 x5_1).f5) != 4) = false := bne_eq_false_iff_eq.mpr c27
        clear c27
        by_cases c28 : (wrap64 (a0_4)) = ((rd_T65 t214 x5_1).f6)
        ·rw [if_pos c28] at H
         have c28b0 : ((wrap64 (a0_4)) == ((rd_T65 t214 x5_1).f6)) = true := beq_iff_eq.mpr c28
         have c28b1 : ((wrap64 (a0_4)) != ((rd_T65 t214 x5_1).f6)) = false := bne_eq_false_iff_eq.mpr c28
         clear c28
         simp only [Option.some.injEq, Prod.mk.injEq] at H
         obtain ⟨rfl, rfl, rfl, rfl, rfl, rfl, rfl, rfl, rfl, rfl, rfl, rfl⟩ := H
         obtain ⟨Ao29, co29, eo29⟩ := Kd.R_slice HO_4.out
         subst eo29
         have p217 : 0 ≤ (x5_1 : Int) := of_decide_eq_true (by first | (with_reducible assumption) | assumption)
         have q217 : x5_1 < (t214.length : Int) := of_decide_eq_true (by first | (with_reducible assumption) | assumption)
         obtain ⟨ad217, e217, hx217_0, hx217_1, hx217_2, hx217_3, hx217_4, hx217_5, hx217_6, hx217_7, hx217_8, hx217_9, hx217_10⟩ := at_T65 (Kd.R_reads' HO_4.out).2.2 x5_1 p217 q217
         cases e217
         replace p217 := eq_true p217
         replace q217 := eq_true q217
         have hnb30 := NB212_213.out
         have hnc30 := NB213_212.out
         have hcz31 := blk_all5 BK212.out
         have p218 : 0 ≤ (x5_1 : Int) := of_decide_eq_true (by first | (with_reducible assumption) | assumption)
         have q218 : x5_1 < (t214.length : Int) := of_decide_eq_true (by first | (with_reducible assumption) | assumption)
         obtain ⟨ad218, e218, hx218_0, hx218_1, hx218_2, hx218_3, hx218_4, hx218_5, hx218_6, hx218_7, hx218_8, hx218_9, hx218_10⟩ := at_T65 (Kd.R_reads' HO_4.out).2.2 x5_1 p218 q218
         obtain rfl : ad217 = ad218 := (by injection e218)
         replace p218 := eq_true p218
         replace q218 := eq_true q218
         have p224 : 0 ≤ (x5_1 : Int) := of_decide_eq_true (by first | (with_reducible assumption) | assumption)
         have q224 : x5_1 < (t214.length : Int) := of_decide_eq_true (by first | (with_reducible assumption) | assumption)
         obtain ⟨ad224, e224, hx224_0, hx224_1, hx224_2, hx224_3, hx224_4, hx224_5, hx224_6, hx224_7, hx224_8, hx224_9, hx224_10⟩ := at_T65 (Kd.R_reads' HO_4.out).2.2 x5_1 p224 q224
         obtain rfl : ad217 = ad224 := (by injection e224)
         replace p224 := eq_true p224
         replace q224 := eq_true q224
         have p225 : 0 ≤ (x5_1 : Int) := of_decide_eq_true (by first | (with_reducible assumption) | assumption)
         have q225 : x5_1 < (t214.length : Int) := of_decide_eq_true (by first | (with_reducible assumption) | assumption)
         obtain ⟨ad225, e225, hx225_0, hx225_1, hx225_2, hx225_3, hx225_4, hx225_5, hx225_6, hx225_7, hx225_8, hx225_9, hx225_10⟩ := at_T65 (Kd.R_reads' HO_4.out).2.2 x5_1 p225 q225
         obtain rfl : ad217 = ad225 := (by injection e225)
         replace p225 := eq_true p225
         replace q225 := eq_true q225
         have p226 : 0 ≤ (x5_1 : Int) := of_decide_eq_true (by first | (with_reducible assumption) | assumption)
         have q226 : x5_1 < (t214.length : Int) := of_decide_eq_true (by first | (with_reducible assumption) | assumption)
         obtain ⟨ad226, e226, hx226_0, hx226_1, hx226_2, hx226_3, hx226_4, hx226_5, hx226_6, hx226_7, hx226_8, hx226_9, hx226_10⟩ := at_T65 (Kd.R_reads' HO_4.out).2.2 x5_1 p226 q226
         obtain rfl : ad217 = ad226 := (by injection e226)
         replace p226 := eq_true p226
         replace q226 := eq_true q226
         have hcz32 := blk_all11 BK213.out
         go_wp2
         repeat (go_quiet (fail); try go_wp2)
         refine bodyPost_ret (results_ct rfl _ _ gb213 65 #[.int .u8 ((rd_T65 t214 x5_1).f0), .int .i64 ((rd_T65 t214 x5_1).f1.f0), .int .i64 ((rd_T65 t214 x5_1).f1.f1), .int .i64 ((rd_T65 t214 x5_1).f1.f2), .bool ((rd_T65 t214 x5_1).f1.f3), .bool ((rd_T65 t214 x5_1).f1.f4), .int .i64 ((rd_T65 t214 x5_1).f2), .int .i64 ((rd_T65 t214 x5_1).f3), .int .i64 ((rd_T65 t214 x5_1).f4), .int .i64 ((rd_T65 t214 x5_1).f5), .int .i64 ((rd_T65 t214 x5_1).f6)] (0, 0) _ rfl bk_now Tryd.underlying65 rfl (by kernel_rfl)) rfl ?_
         exact ⟨ret_now, b_now⟩
        ·rw [if_neg c28] at H
         have c28b0 : ((wrap64 (a0_4)) == ((rd_T65 t214 x5_1).f6)) = false := beq_eq_false_iff_ne.mpr c28
         have c28b1 : ((wrap64 (a0_4)) != ((rd_T65 t214 x5_1).f6)) = true := bne_iff_ne.mpr c28
         have H' := Aside0.mk H
         clear H
         obtain ⟨Ao33, co33, eo33⟩ := Kd.R_slice HO_4.out
         subst eo33
         have p217 : 0 ≤ (x5_1 : Int) := of_decide_eq_true (by first | (with_reducible assumption) | assumption)
         have q217 : x5_1 < (t214.length : Int) := of_decide_eq_true (by first | (with_reducible assumption) | assumption)
         obtain ⟨ad217, e217, hx217_0, hx217_1, hx217_2, hx217_3, hx217_4, hx217_5, hx217_6, hx217_7, hx217_8, hx217_9, hx217_10⟩ := at_T65 (Kd.R_reads' HO_4.out).2.2 x5_1 p217 q217
         cases e217
         replace p217 := eq_true p217
         replace q217 := eq_true q217
         have hnb34 := NB212_213.out
         have hnc34 := NB213_212.out
         have hcz35 := blk_all5 BK212.out
         have p218 : 0 ≤ (x5_1 : Int) := of_decide_eq_true (by first | (with_reducible assumption) | assumption)
         have q218 : x5_1 < (t214.length : Int) := of_decide_eq_true (by first | (with_reducible assumption) | assumption)
         obtain ⟨ad218, e218, hx218_0, hx218_1, hx218_2, hx218_3, hx218_4, hx218_5, hx218_6, hx218_7, hx218_8, hx218_9, hx218_10⟩ := at_T65 (Kd.R_reads' HO_4.out).2.2 x5_1 p218 q218
         obtain rfl : ad217 = ad218 := (by injection e218)
         replace p218 := eq_true p218
         replace q218 := eq_true q218
         have p224 : 0 ≤ (x5_1 : Int) := of_decide_eq_true (by first | (with_reducible assumption) | assumption)
         have q224 : x5_1 < (t214.length : Int) := of_decide_eq_true (by first | (with_reducible assumption) | assumption)
         obtain ⟨ad224, e224, hx224_0, hx224_1, hx224_2, hx224_3, hx224_4, hx224_5, hx224_6, hx224_7, hx224_8, hx224_9, hx224_10⟩ := at_T65 (Kd.R_reads' HO_4.out).2.2 x5_1 p224 q224
         obtain rfl : ad217 = ad224 := (by injection e224)
         replace p224 := eq_true p224
         replace q224 := eq_true q224
         have p225 : 0 ≤ (x5_1 : Int) := of_decide_eq_true (by first | (with_reducible assumption) | assumption)
         have q225 : x5_1 < (t214.length : Int) := of_decide_eq_true (by first | (with_reducible assumption) | assumption)
         obtain ⟨ad225, e225, hx225_0, hx225_1, hx225_2, hx225_3, hx225_4, hx225_5, hx225_6, hx225_7, hx225_8, hx225_9, hx225_10⟩ := at_T65 (Kd.R_reads' HO_4.out).2.2 x5_1 p225 q225
         obtain rfl : ad217 = ad225 := (by injection e225)
         replace p225 := eq_true p225
         replace q225 := eq_true q225
         go_wp2
         repeat (go_quiet (fail); try go_wp2)
         go_roundg k1
         case measure => have := HK1.out; omega
         case rel => exact ⟨(wrap64 (x5_1 + 1)), (x214000_1), (x214001_1), (x214002_1), (x214003_1), (x214004_1), (x214005_1), (x214006_1), (x214007_1), (x214008_1), (x214009_1), (x214010_1), eq_now, H', ⟨by have := HK1.out; omega⟩, ⟨by (with_reducible repeat (first | apply Kd.R_alloc | apply Kd.R_drewN | apply Kd.R_drew)); exact HO_4.out⟩, ⟨bk_now⟩, ⟨bk_now⟩, ⟨b_now⟩⟩
       ·rw [if_neg c27] at H
        have c27b0 : (((rd_T65 t214 x5_1).f5) == 4) = false := beq_eq_false_iff_ne.mpr c27
        have c27b1 : (((rd_T65 t214 x5_1).f5) != 4) = true := bne_iff_ne.mpr c27
        simp only [Option.some.injEq, Prod.mk.injEq] at H
        obtain ⟨rfl, rfl, rfl, rfl, rfl, rfl, rfl, rfl, rfl, rfl, rfl, rfl⟩ := H
        obtain ⟨Ao36, co36, eo36⟩ := Kd.R_slice HO_4.out
        subst eo36
        have p217 : 0 ≤ (x5_1 : Int) := of_decide_eq_true (by first | (with_reducible assumption) | assumption)
        have q217 : x5_1 < (t214.length : Int) := of_decide_eq_true (by first | (with_reducible assumption) | assumption)
        obtain ⟨ad217, e217, hx217_0, hx217_1, hx217_2, hx217_3, hx217_4, hx217_5, hx217_6, hx217_7, hx217_8, hx217_9, hx217_10⟩ := at_T65 (Kd.R_reads' HO_4.out).2.2 x5_1 p217 q217
        cases e217
        replace p217 := eq_true p217
        replace q217 := eq_true q217
        have hnb37 := NB212_213.out
        have hnc37 := NB213_212.out
        have hcz38 := blk_all5 BK212.out
        have p218 : 0 ≤ (x5_1 : Int) := of_decide_eq_true (by first | (with_reducible assumption) | assumption)
        have q218 : x5_1 < (t214.length : Int) := of_decide_eq_true (by first | (with_reducible assumption) | assumption)
        obtain ⟨ad218, e218, hx218_0, hx218_1, hx218_2, hx218_3, hx218_4, hx218_5, hx218_6, hx218_7, hx218_8, hx218_9, hx218_10⟩ := at_T65 (Kd.R_reads' HO_4.out).2.2 x5_1 p218 q218
        obtain rfl : ad217 = ad218 := (by injection e218)
        replace p218 := eq_true p218
        replace q218 := eq_true q218
        have p224 : 0 ≤ (x5_1 : Int) := of_decide_eq_true (by first | (with_reducible assumption) | assumption)
        have q224 : x5_1 < (t214.length : Int) := of_decide_eq_true (by first | (with_reducible assumption) | assumption)
        obtain ⟨ad224, e224, hx224_0, hx224_1, hx224_2, hx224_3, hx224_4, hx224_5, hx224_6, hx224_7, hx224_8, hx224_9, hx224_10⟩ := at_T65 (Kd.R_reads' HO_4.out).2.2 x5_1 p224 q224
        obtain rfl : ad217 = ad224 := (by injection e224)
        replace p224 := eq_true p224
        replace q224 := eq_true q224
        have p227 : 0 ≤ (x5_1 : Int) := of_decide_eq_true (by first | (with_reducible assumption) | assumption)
        have q227 : x5_1 < (t214.length : Int) := of_decide_eq_true (by first | (with_reducible assumption) | assumption)
        obtain ⟨ad227, e227, hx227_0, hx227_1, hx227_2, hx227_3, hx227_4, hx227_5, hx227_6, hx227_7, hx227_8, hx227_9, hx227_10⟩ := at_T65 (Kd.R_reads' HO_4.out).2.2 x5_1 p227 q227
        obtain rfl : ad217 = ad227 := (by injection e227)
        replace p227 := eq_true p227
        replace q227 := eq_true q227
        have hcz39 := blk_all11 BK213.out
        go_wp2
        repeat (go_quiet (fail); try go_wp2)
        refine bodyPost_ret (results_ct rfl _ _ gb213 65 #[.int .u8 ((rd_T65 t214 x5_1).f0), .int .i64 ((rd_T65 t214 x5_1).f1.f0), .int .i64 ((rd_T65 t214 x5_1).f1.f1), .int .i64 ((rd_T65 t214 x5_1).f1.f2), .bool ((rd_T65 t214 x5_1).f1.f3), .bool ((rd_T65 t214 x5_1).f1.f4), .int .i64 ((rd_T65 t214 x5_1).f2), .int .i64 ((rd_T65 t214 x5_1).f3), .int .i64 ((rd_T65 t214 x5_1).f4), .int .i64 ((rd_T65 t214 x5_1).f5), .int .i64 ((rd_T65 t214 x5_1).f6)] (0, 0) _ rfl bk_now Tryd.underlying65 rfl (by kernel_rfl)) rfl ?_
        exact ⟨ret_now, b_now⟩
     ·rw [if_neg c8] at H
      have c8b0 : (((rd_T65 t214 x5_1).f0) == a0_0) = false := beq_eq_false_iff_ne.mpr c8
      have c8b1 : (((rd_T65 t214 x5_1).f0) != a0_0) = true := bne_iff_ne.mpr c8
      have H' := Aside0.mk H
      clear H
      obtain ⟨Ao40, co40, eo40⟩ := Kd.R_slice HO_4.out
      subst eo40
      have p217 : 0 ≤ (x5_1 : Int) := of_decide_eq_true (by first | (with_reducible assumption) | assumption)
      have q217 : x5_1 < (t214.length : Int) := of_decide_eq_true (by first | (with_reducible assumption) | assumption)
      obtain ⟨ad217, e217, hx217_0, hx217_1, hx217_2, hx217_3, hx217_4, hx217_5, hx217_6, hx217_7, hx217_8, hx217_9, hx217_10⟩ := at_T65 (Kd.R_reads' HO_4.out).2.2 x5_1 p217 q217
      cases e217
      replace p217 := eq_true p217
      replace q217 := eq_true q217
      have hnb41 := NB212_213.out
      have hnc41 := NB213_212.out
      have hcz42 := blk_all5 BK212.out
      go_wp2
      repeat (go_quiet (fail); try go_wp2)
      go_roundg k1
      case measure => have := HK1.out; omega
      case rel => exact ⟨(wrap64 (x5_1 + 1)), (x214000_1), (x214001_1), (x214002_1), (x214003_1), (x214004_1), (x214005_1), (x214006_1), (x214007_1), (x214008_1), (x214009_1), (x214010_1), eq_now, H', ⟨by have := HK1.out; omega⟩, ⟨by (with_reducible repeat (first | apply Kd.R_alloc | apply Kd.R_drewN | apply Kd.R_drew)); exact HO_4.out⟩, ⟨bk_now⟩, ⟨bk_now⟩, ⟨b_now⟩⟩
    ·rw [if_neg c7] at H
     exact absurd H (by simp)
   ·rw [if_neg c6] at H
    have c6b0 : decide (x5_1 < (t214.length : Int)) = false := decide_eq_false c6
    clear c6
    simp only [Option.some.injEq, Prod.mk.injEq] at H
    obtain ⟨rfl, rfl, rfl, rfl, rfl, rfl, rfl, rfl, rfl, rfl, rfl, rfl⟩ := H
    obtain ⟨Ao43, co43, eo43⟩ := Kd.R_slice HO_4.out
    subst eo43
    have hnb44 := NB213_212.out
    have hnc44 := NB212_213.out
    have hcz45 := blk_all11 BK213.out
    go_wp2
    repeat (go_quiet (fail); try go_wp2)
    refine bodyPost_ret (results_ct rfl _ _ gb213 65 #[.int .u8 0, .int .i64 0, .int .i64 0, .int .i64 0, .bool false, .bool false, .int .i64 0, .int .i64 0, .int .i64 0, .int .i64 0, .int .i64 0] (0, 0) _ rfl bk_now Tryd.underlying65 rfl (by kernel_rfl)) rfl ?_
    exact ⟨ret_now, b_now⟩

/-! ### stockaderef02_wrong: function 33 -/
def stockaderef02_wrong.f (a0 : Int) (a1 : Int) : Option (Bool) := if a0 = 1 then (if a1 > 10 then (some true) else (if a0 = 2 then (some (decide (a1 > 9))) else (some false))) else (if a0 = 2 then (some (decide (a1 > 9))) else (some false))
set_option maxHeartbeats 8000000 in
set_option maxRecDepth 100000 in
theorem stockaderef02_wrong.calls (a0 : Int) (a1 : Int) (r : Bool) (w : World) (h : stockaderef02_wrong.f a0 a1 = some r) :
  Calls Tryd.prog 33 #[.int .i64 a0, .int .u8 a1] w fun e w' => e = .returned (.bool r) ∧ Drawn0 w w' := by
 have H : (if a0 = 1 then (if a1 > 10 then (some true) else (if a0 = 2 then (some (decide (a1 > 9))) else (some false))) else (if a0 = 2 then (some (decide (a1 > 9))) else (some false))) = some r := h
 clear h
 by_cases c3 : a0 = 1
 ·rw [if_pos c3] at H
  have c3b0 : (a0 == 1) = true := beq_iff_eq.mpr c3
  have c3b1 : (a0 != 1) = false := bne_eq_false_iff_eq.mpr c3
  clear c3
  by_cases c4 : a1 > 10
  ·rw [if_pos c4] at H
   have c4b0 : decide (10 < a1) = true := decide_eq_true c4
   clear c4
   obtain rfl := Option.some.inj H
   go_enter Tryd.func33, Tryd.ntmps33
   go_wp2
   go_ret
   exact ⟨by first | rfl | (simp; done) | (simp [*]; done), by repeat (first | exact Drawn0.refl _ | apply Drawn0.step)⟩
  ·rw [if_neg c4] at H
   have c4b0 : decide (10 < a1) = false := decide_eq_false c4
   clear c4
   by_cases c5 : a0 = 2
   ·rw [if_pos c5] at H
    have c5b0 : (a0 == 2) = true := beq_iff_eq.mpr c5
    have c5b1 : (a0 != 2) = false := bne_eq_false_iff_eq.mpr c5
    clear c5
    obtain rfl := Option.some.inj H
    go_enter Tryd.func33, Tryd.ntmps33
    go_wp2
    go_ret
    exact ⟨by first | rfl | (simp; done) | (simp [*]; done), by repeat (first | exact Drawn0.refl _ | apply Drawn0.step)⟩
   ·rw [if_neg c5] at H
    have c5b0 : (a0 == 2) = false := beq_eq_false_iff_ne.mpr c5
    have c5b1 : (a0 != 2) = true := bne_iff_ne.mpr c5
    obtain rfl := Option.some.inj H
    go_enter Tryd.func33, Tryd.ntmps33
    go_wp2
    go_ret
    exact ⟨by first | rfl | (simp; done) | (simp [*]; done), by repeat (first | exact Drawn0.refl _ | apply Drawn0.step)⟩
 ·rw [if_neg c3] at H
  have c3b0 : (a0 == 1) = false := beq_eq_false_iff_ne.mpr c3
  have c3b1 : (a0 != 1) = true := bne_iff_ne.mpr c3
  by_cases c6 : a0 = 2
  ·rw [if_pos c6] at H
   have c6b0 : (a0 == 2) = true := beq_iff_eq.mpr c6
   have c6b1 : (a0 != 2) = false := bne_eq_false_iff_eq.mpr c6
   clear c6
   obtain rfl := Option.some.inj H
   go_enter Tryd.func33, Tryd.ntmps33
   go_wp2
   go_ret
   exact ⟨by first | rfl | (simp; done) | (simp [*]; done), by repeat (first | exact Drawn0.refl _ | apply Drawn0.step)⟩
  ·rw [if_neg c6] at H
   have c6b0 : (a0 == 2) = false := beq_eq_false_iff_ne.mpr c6
   have c6b1 : (a0 != 2) = true := bne_iff_ne.mpr c6
   obtain rfl := Option.some.inj H
   go_enter Tryd.func33, Tryd.ntmps33
   go_wp2
   go_ret
   exact ⟨by first | rfl | (simp; done) | (simp [*]; done), by repeat (first | exact Drawn0.refl _ | apply Drawn0.step)⟩

end Go.Proofs.YtkojjjdeacdabaaDoor.P
