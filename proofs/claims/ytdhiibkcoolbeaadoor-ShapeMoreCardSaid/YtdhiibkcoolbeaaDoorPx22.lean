/- Made by this session's driver over the kit's printer: for each Go function a Lean function with the same answers, and a proof that the Go call comes to these answers; no conditions but the ones each theorem names. -/
import Derived.Test.YtdhiibkcoolbeaaDoorPx0
import Derived.Test.YtdhiibkcoolbeaaDoorPx4
import Derived.Test.YtdhiibkcoolbeaaDoorPx16
import Derived.Test.YtdhiibkcoolbeaaDoorPx19
import Derived.Test.YtdhiibkcoolbeaaDoorPxXXCk
import Derived.Test.YtdhiibkcoolbeaaDoorPureAwake
namespace Go.Proofs.YtdhiibkcoolbeaaDoor.P
open Go.RowKit Go.Proofs.YtdhiibkcoolbeaaDoorW.PrintWords Go.Proofs.YtdhiibkcoolbeaaDoorW.PrintLast Go.Proofs.YtdhiibkcoolbeaaDoorW.PrintMore
attribute [local go_sem] max2_int min2_int max_two min_two max_three min_three max_four min_four   -- for this text's walks alone
set_option linter.unusedVariables false
set_option linter.unusedSimpArgs false

/-! ### stockadelaw04_ShapeMore: function 7 -/
def stockadelaw04_ShapeMore.j0 : Nat → Bool → List (S52) → List (S40) → Int → Int → Int → Int → Option (Bool)
 | 0, _, _, _, _, _, _, _ => none
 | k + 1, x15, x504000, x504001, x505000, x505001, x505002, x505003 => if x15 = true then ((stockadelaw04_awake.f).bind fun t507 => (some t507)) else ((stockadelaw04_twin.f x504000 x504001).bind fun bt508 => ((stockadelaw04_exit.f).bind fun bt515 => (if bt508.2.length < 11728124029610 then ((some (bt508.2 ++ [(⟨bt515.1, bt515.2.1, bt515.2.2.1, bt515.2.2.2.1, bt515.2.2.2.2⟩ : S40)] : List (S40))).bind fun y520 => ((shape_Check.f bt508.1 y520).bind fun bt523 => (if (y520.length : Int) > 512 then (if bt523.1 = 0 then (some (bt523.2 == 3)) else (some false)) else (if bt523.2 = 0 then ((stockadelaw04_twin.f x504000 x504001).bind fun bt525 => (if bt525.1.length < 4398046511104 then ((some (bt525.1 ++ [(⟨x505000, x505001, x505002, x505003⟩ : S52)] : List (S52))).bind fun y531 => ((shape_Check.f y531 bt525.2).bind fun bt534 => (if (y531.length : Int) > 4 then (if bt534.1 = 0 then (some (bt534.2 == 3)) else (some false)) else ((stockadelaw04_exit.f).bind fun bt539 => ((stockadelaw04_right.f (([(⟨x505000, x505001, x505002, x505003⟩ : S52)] : List (S52))) (([(⟨bt539.1, bt539.2.1, bt539.2.2.1, bt539.2.2.2.1, bt539.2.2.2.2⟩ : S40)] : List (S40)))).bind fun t547 => (if (t547 == (bt534.2 == 0)) = true then (if t547 = true then (some true) else (if bt534.2 = 26 then (some (bt534.1 == (x504000.length : Int))) else (some false))) else (some false))))))) else (none))) else (some false))))) else (none))))
def stockadelaw04_ShapeMore.f (k : Nat) (l0_0 : List (S52)) (l0_1 : List (S40)) (a1_0 : Int) (a1_1 : Int) (a1_2 : Int) (a1_3 : Int) : Option (Bool) := (stockadelaw04_awake.f).bind fun t505 => (if t505 = true then ((stockadelaw04_right.f l0_0 l0_1).bind fun t506 => (stockadelaw04_ShapeMore.j0 k (!t506) l0_0 l0_1 a1_0 a1_1 a1_2 a1_3)) else (stockadelaw04_ShapeMore.j0 k true l0_0 l0_1 a1_0 a1_1 a1_2 a1_3))
theorem stockadelaw04_ShapeMore.mono_l : ∀ k, (∀ y0 y1 y2 y3 y4 y5 y6, LeO (stockadelaw04_ShapeMore.j0 k y0 y1 y2 y3 y4 y5 y6) (stockadelaw04_ShapeMore.j0 (k + 1) y0 y1 y2 y3 y4 y5 y6))
 | 0 => fun _ _ _ _ _ _ _ r h => by simp [stockadelaw04_ShapeMore.j0] at h
 | k + 1 => by
  have ih0 := stockadelaw04_ShapeMore.mono_l k
  ·intro y0 y1 y2 y3 y4 y5 y6
   unfold stockadelaw04_ShapeMore.j0
   repeat' first
   | (with_reducible exact ih0 _ _ _ _ _ _ _)
   | (with_reducible exact LeO.refl _)
   | (with_reducible exact LeO.none _)
   | (with_reducible refine LeO.ite ?_ ?_)
   | (with_reducible refine LeO.bind ?_ (fun _ => ?_))
   | exact ih0 _ _ _ _ _ _ _
   | exact LeO.none _
   | refine LeO.ite ?_ ?_
   | refine LeO.bind ?_ (fun _ => ?_)
theorem stockadelaw04_ShapeMore.mono : ∀ a0 a1 a2 a3 a4 a5 k, LeO (stockadelaw04_ShapeMore.f k a0 a1 a2 a3 a4 a5) (stockadelaw04_ShapeMore.f (k + 1) a0 a1 a2 a3 a4 a5) := by
 intro a0 a1 a2 a3 a4 a5 k
 have ih0 := stockadelaw04_ShapeMore.mono_l k
 unfold stockadelaw04_ShapeMore.f
 repeat' first
   | (with_reducible exact ih0 _ _ _ _ _ _ _)
   | (with_reducible exact LeO.refl _)
   | (with_reducible exact LeO.none _)
   | (with_reducible refine LeO.ite ?_ ?_)
   | (with_reducible refine LeO.bind ?_ (fun _ => ?_))
   | exact ih0 _ _ _ _ _ _ _
   | exact LeO.none _
   | refine LeO.ite ?_ ?_
   | refine LeO.bind ?_ (fun _ => ?_)
def stockadelaw04_ShapeMore.T15 : Bool × List (List Nat × List Nat) := (true, [([], []), ([0], [0]), ([], []), ([2], [2]), ([1, 3], [1, 3]), ([4, 2], [4]), ([5, 5, 0, 1, 2, 3, 4, 5], [5])])
def stockadelaw04_ShapeMore.B15 : List Nat := [0, 1, 0, 4, 15, 31, 63]
theorem stockadelaw04_ShapeMore.tab15 : rtab .any (opsOf Tryd.f7 15) = stockadelaw04_ShapeMore.T15 := by kernel_rfl
theorem stockadelaw04_ShapeMore.bits15 : waitsOk stockadelaw04_ShapeMore.T15.2 stockadelaw04_ShapeMore.B15 = true := by kernel_rfl
set_option maxHeartbeats 8000000 in
set_option maxRecDepth 100000 in
theorem stockadelaw04_ShapeMore.calls (k : Nat) (A0_0 : Option Addr) (c0_0 : Nat) (l0_0 : List (S52)) (A0_1 : Option Addr) (c0_1 : Nat) (l0_1 : List (S40)) (a1_0 : Int) (a1_1 : Int) (a1_2 : Int) (a1_3 : Int) (r : Bool) (w : World) (hr0_0 : Kd.C k52 w A0_0 l0_0.length l0_0) (hc0_0 : l0_0.length ≤ c0_0) (hr0_1 : Kd.C k40 w A0_1 l0_1.length l0_1) (hc0_1 : l0_1.length ≤ c0_1) (hrG0 : Kd.C (Kd.int .i64) w (some ⟨0, 0, none⟩) gl0.length gl0) (hr_ : r = true) (h : stockadelaw04_ShapeMore.f k l0_0 l0_1 a1_0 a1_1 a1_2 a1_3 = some r) :
  Calls Tryd.prog 7 #[.agg #[.slice A0_0 l0_0.length c0_0, .slice A0_1 l0_1.length c0_1], .agg #[.int .i64 a1_0, .int .i64 a1_1, .int .i64 a1_2, .int .i64 a1_3]] w fun e w' => e = .returned (.bool r) ∧ Below w.heap.size w w' := by
 have hu25 := Tryd.underlying25
 have hu52 := Tryd.underlying52
 have HR0_0 := Aside0.mk hr0_0
 have HC0_0 := Aside0.mk hc0_0
 clear hr0_0 hc0_0
 have HR0_1 := Aside0.mk hr0_1
 have HC0_1 := Aside0.mk hc0_1
 clear hr0_1 hc0_1
 have HRG0 := Aside0.mk hrG0
 clear hrG0
 have HRT := Aside0.mk hr_
 clear hr_
 have HB := Aside0.mk (Below.refl w.heap.size w)
 have H : ((stockadelaw04_awake.f).bind fun t505 => (if t505 = true then ((stockadelaw04_right.f l0_0 l0_1).bind fun t506 => (stockadelaw04_ShapeMore.j0 k (!t506) l0_0 l0_1 a1_0 a1_1 a1_2 a1_3)) else (stockadelaw04_ShapeMore.j0 k true l0_0 l0_1 a1_0 a1_1 a1_2 a1_3))) = some r := h
 clear h
 have HC3 := Aside0.mk H
 clear H
 go_enter Tryd.func7, Tryd.ntmps7
 go_upto_region 1 with (first | ((with_reducible refine gate_dst (N := 2) rfl ?_); (try (refine gate_guard (by rfl) ?_; dsimp only)); refine sh_box 2 #[.slice A0_0 l0_0.length c0_0, .slice A0_1 l0_1.length c0_1] 25 ?_; intro gb503 hg w4 hbox hb; have GE503 := sh_z (w := w) hg; replace HB := sh_b (w := w) hb; have BK503 := Aside0.mk (hbox); clear hb hbox hg) | ((with_reducible refine gate_dst (N := 3) rfl ?_); (try (refine gate_guard (by rfl) ?_; dsimp only)); refine sh_box 3 #[.int .i64 a1_0, .int .i64 a1_1, .int .i64 a1_2, .int .i64 a1_3] 52 ?_; intro gb504 hg w5 hbox hb; have GE504 := sh_z (w := w) hg; have NB503_504 := sh_n BK503 hg; have NB504_503 := sh_s NB503_504; replace BK503 := sh_k BK503 hb; replace HB := sh_b (w := w) hb; have BK504 := Aside0.mk (hbox); clear hb hbox hg))
 (try simp only [Act.put, List.setIfInBounds_toArray, List.set_cons_zero, List.set_cons_succ])
 go_cut [15] (fun v15 wc => ∃ (kq : Nat) (x15_2 : Bool), v15 = .bool x15_2 ∧ Aside0 (stockadelaw04_ShapeMore.j0 kq x15_2 l0_0 l0_1 a1_0 a1_1 a1_2 a1_3 = some r) ∧ Aside0 (kq ≤ k) ∧ Aside0 (wc.heap[gb503]? = some (.cells #[(.slice A0_0 l0_0.length c0_0), (.slice A0_1 l0_1.length c0_1)] 25 (0, 0))) ∧ Aside0 (wc.heap[gb504]? = some (.cells #[.int .i64 a1_0, .int .i64 a1_1, .int .i64 a1_2, .int .i64 a1_3] 52 (0, 0))) ∧ Aside0 (Below w.heap.size w wc))
 case first =>
  have H := HC3.out
  clear HC3
  replace H := Option.bind_eq_some_iff.mp H; obtain ⟨t505, A60, H⟩ := H; try dsimp only at H
  have A6 := Aside0.mk A60
  clear A60
  by_cases c7 : t505 = true
  ·subst c7
   replace H := sh_t H
   replace H := Option.bind_eq_some_iff.mp H; obtain ⟨t506, A80, H⟩ := H; try dsimp only at H
   have A8 := Aside0.mk A80
   clear A80
   have H' := Aside0.mk H
   clear H
   go_wp2_with (first | ((with_reducible refine gate_callee (f := 13) rfl ?_); refine sh_call (some 9) Tryd.func13 #[] ?_; (with_reducible refine (stockadelaw04_awake.calls  true _ ?side1 (by first | rfl | exact HRT.out) A6.out).mono ?_); (case side1 => repeat (first | exact (Kd.C_below HRG0.out HB.out) | (with_reducible refine Kd.C_alloc ?_ _) | (with_reducible refine Kd.C_drewN ?_ _) | (with_reducible refine Kd.C_drew ?_))); rintro e w9 ⟨rfl, hb⟩; refine ⟨_, rfl, ?_⟩; replace BK503 := sh_k BK503 hb; replace BK504 := sh_k BK504 hb; replace HB := sh_b (w := w) hb; (try clear hb); (try clear hb2); (try clear hk); (try clear hi); have hnb10 := NB503_504.out; have hnc10 := NB504_503.out; have hcz11 := blk_all2 BK503.out) | (go_at_call 21; (with_reducible refine (stockadelaw04_right.calls _ _ l0_0 _ _ l0_1 t506 _ ?side1 ?side2 ?side3 ?side4 ?side5 A8.out).mono ?_); (case side1 => repeat (first | exact (Kd.C_below HR0_0.out HB.out) | (with_reducible refine Kd.C_alloc ?_ _) | (with_reducible refine Kd.C_drewN ?_ _) | (with_reducible refine Kd.C_drew ?_))); (case side2 => exact HC0_0.out); (case side3 => repeat (first | exact (Kd.C_below HR0_1.out HB.out) | (with_reducible refine Kd.C_alloc ?_ _) | (with_reducible refine Kd.C_drewN ?_ _) | (with_reducible refine Kd.C_drew ?_))); (case side4 => exact HC0_1.out); (case side5 => repeat (first | exact (Kd.C_below HRG0.out HB.out) | (with_reducible refine Kd.C_alloc ?_ _) | (with_reducible refine Kd.C_drewN ?_ _) | (with_reducible refine Kd.C_drew ?_))); rintro e w12 ⟨rfl, hb⟩; replace BK503 := sh_k BK503 hb; replace BK504 := sh_k BK504 hb; replace HB := sh_b (w := w) hb; (try clear hb); (try clear hb2); (try clear hk); (try clear hi)))
   go_meet
   case rel => exact ⟨_, (!t506), eq_now, H', ⟨by first | omega | exact Nat.le_refl _⟩, ⟨bk_now⟩, ⟨bk_now⟩, ⟨b_now⟩⟩
  ·replace c7 := Bool.eq_false_iff.mpr c7
   subst c7
   replace H := sh_f H
   have H' := Aside0.mk H
   clear H
   go_wp2_with (first | ((with_reducible refine gate_callee (f := 13) rfl ?_); refine sh_call (some 9) Tryd.func13 #[] ?_; (with_reducible refine (stockadelaw04_awake.calls  false _ ?side1 (Option.some.inj (A6.out.symm.trans Go.Proofs.YtdhiibkcoolbeaaDoor.Pure.awake_eq)) A6.out).mono ?_); (case side1 => repeat (first | exact (Kd.C_below HRG0.out HB.out) | (with_reducible refine Kd.C_alloc ?_ _) | (with_reducible refine Kd.C_drewN ?_ _) | (with_reducible refine Kd.C_drew ?_))); rintro e w13 ⟨rfl, hb⟩; refine ⟨_, rfl, ?_⟩; replace BK503 := sh_k BK503 hb; replace BK504 := sh_k BK504 hb; replace HB := sh_b (w := w) hb; (try clear hb); (try clear hb2); (try clear hk); (try clear hi)))
   go_meet
   case rel => exact ⟨_, (true), eq_now, H', ⟨by first | omega | exact Nat.le_refl _⟩, ⟨bk_now⟩, ⟨bk_now⟩, ⟨b_now⟩⟩
 case rest =>
  clear HC3
  try clear c1
  try clear p2
  try clear c7
  try clear c10
  try clear c13
  try clear hcz11
  obtain ⟨kq, x15_2, rfl, HA, HJ2, BK503, BK504, HB⟩ := hcut
  cases kq with
  | zero => exact absurd HA.out (by simp [stockadelaw04_ShapeMore.j0])
  | succ kj2 =>
   have H := HA.out
   clear HA
   simp only [stockadelaw04_ShapeMore.j0] at H
   by_cases c14 : x15_2 = true
   ·subst c14
    replace H := sh_t H
    replace H := Option.bind_eq_some_iff.mp H; obtain ⟨t507, A150, H⟩ := H; try dsimp only at H
    have A15 := Aside0.mk A150
    clear A150
    obtain rfl := Option.some.inj H
    go_wp2_with (first | ((with_reducible refine gate_callee (f := 13) rfl ?_); refine sh_call (some 16) Tryd.func13 #[] ?_; (with_reducible refine (stockadelaw04_awake.calls  t507 _ ?side1 (by first | rfl | exact HRT.out) A15.out).mono ?_); (case side1 => repeat (first | exact (Kd.C_below HRG0.out HB.out) | (with_reducible refine Kd.C_alloc ?_ _) | (with_reducible refine Kd.C_drewN ?_ _) | (with_reducible refine Kd.C_drew ?_))); rintro e w16 ⟨rfl, hb⟩; refine ⟨_, rfl, ?_⟩; replace BK503 := sh_k BK503 hb; replace BK504 := sh_k BK504 hb; replace HB := sh_b (w := w) hb; (try clear hb); (try clear hb2); (try clear hk); (try clear hi)))
    go_ret
    exact ⟨ret_now, b_now⟩
   ·replace c14 := Bool.eq_false_iff.mpr c14
    subst c14
    replace H := sh_f H
    replace H := Option.bind_eq_some_iff.mp H; obtain ⟨⟨t508, t511⟩, A170, H⟩ := H; try dsimp only at H
    have A17 := Aside0.mk A170
    clear A170
    replace H := Option.bind_eq_some_iff.mp H; obtain ⟨⟨t515, t516, t517, t518, t519⟩, A180, H⟩ := H; try dsimp only at H
    have A18 := Aside0.mk A180
    clear A180
    by_cases c19 : t511.length < 11728124029610
    ·rw [if_pos c19] at H
     have LMc19 := Aside0.mk c19
     clear c19
     obtain ⟨y520, hy520⟩ : ∃ y_ : List (S40), y_ = (t511 ++ [(⟨t515, t516, t517, t518, t519⟩ : S40)]) := ⟨_, rfl⟩
     replace H : ((shape_Check.f t508 y520).bind fun bt523 => (if (y520.length : Int) > 512 then (if bt523.1 = 0 then (some (bt523.2 == 3)) else (some false)) else (if bt523.2 = 0 then ((stockadelaw04_twin.f l0_0 l0_1).bind fun bt525 => (if bt525.1.length < 4398046511104 then ((some (bt525.1 ++ [(⟨a1_0, a1_1, a1_2, a1_3⟩ : S52)] : List (S52))).bind fun y531 => ((shape_Check.f y531 bt525.2).bind fun bt534 => (if (y531.length : Int) > 4 then (if bt534.1 = 0 then (some (bt534.2 == 3)) else (some false)) else ((stockadelaw04_exit.f).bind fun bt539 => ((stockadelaw04_right.f (([(⟨a1_0, a1_1, a1_2, a1_3⟩ : S52)] : List (S52))) (([(⟨bt539.1, bt539.2.1, bt539.2.2.1, bt539.2.2.2.1, bt539.2.2.2.2⟩ : S40)] : List (S40)))).bind fun t547 => (if (t547 == (bt534.2 == 0)) = true then (if t547 = true then (some true) else (if bt534.2 = 26 then (some (bt534.1 == (l0_0.length : Int))) else (some false))) else (some false))))))) else (none))) else (some false)))) = some r := by first | (rw [hy520]; with_reducible exact H) | (have H2_ := (Option.bind_some _ _).symm.trans H; rw [hy520]; with_reducible exact H2_) | (have H2_ := (Option.bind_some _ _).symm.trans H; with_reducible exact H2_) | with_reducible exact H | (rw [hy520]; exact H) | exact H
     have Ny520 := Aside0.mk hy520
     clear hy520
     replace H := Option.bind_eq_some_iff.mp H; obtain ⟨⟨t523, t524⟩, A200, H⟩ := H; try dsimp only at H
     have A20 := Aside0.mk A200
     clear A200
     by_cases c21 : (y520.length : Int) > 512
     ·rw [if_pos c21] at H
      have c21b0 : decide (512 < (y520.length : Int)) = true := decide_eq_true c21
      have c21b1 : decide (512 < y520.length) = true := decide_eq_true (by omega)
      clear c21
      by_cases c22 : t523 = 0
      ·rw [if_pos c22] at H
       have c22b0 : (t523 == 0) = true := beq_iff_eq.mpr c22
       have c22b1 : (t523 != 0) = false := bne_eq_false_iff_eq.mpr c22
       clear c22
       obtain rfl := Option.some.inj H
       have hnb23 := NB503_504.out
       have hnc23 := NB504_503.out
       have hcz24 := blk_all2 BK503.out
       try go_wp2_with (first | ((with_reducible refine gate_callee (f := 10) rfl ?_); refine sh_call (some 18) Tryd.func10 #[.agg #[.slice A0_0 l0_0.length c0_0, .slice A0_1 l0_1.length c0_1]] ?_; (with_reducible refine (stockadelaw04_twin.calls _ _ l0_0 _ _ l0_1 t508 t511 _ ?side1 ?side2 ?side3 ?side4 A17.out).mono ?_); (case side1 => repeat (first | exact (Kd.C_below HR0_0.out HB.out) | (with_reducible refine Kd.C_alloc ?_ _) | (with_reducible refine Kd.C_drewN ?_ _) | (with_reducible refine Kd.C_drew ?_))); (case side2 => exact HC0_0.out); (case side3 => repeat (first | exact (Kd.C_below HR0_1.out HB.out) | (with_reducible refine Kd.C_alloc ?_ _) | (with_reducible refine Kd.C_drewN ?_ _) | (with_reducible refine Kd.C_drew ?_))); (case side4 => exact HC0_1.out); rintro e w25 ⟨v509, v512, rfl, ho0, ho1, hb⟩; refine ⟨_, rfl, ?_⟩; have HO510 := Aside0.mk (Kd.R_lower (Kd.R_newB ho0 (g := gb504) (o := .cells #[.int .i64 a1_0, .int .i64 a1_1, .int .i64 a1_2, .int .i64 a1_3] 52 (0, 0)) bk_now) (below_size b_now)); have HO513 := Aside0.mk (Kd.R_lower ho1 (below_size b_now)); replace BK503 := sh_k BK503 hb; replace BK504 := sh_k BK504 hb; replace HB := sh_b (w := w) hb; (try clear hb); (try clear hb2); (try clear hk); (try clear hi); (try clear ho0); (try clear ho1)) | ((with_reducible refine gate_dst (N := 5) rfl ?_); (try (refine gate_guard (by rfl) ?_; dsimp only)); refine sh_box 5 #[.slice none 0 0, .slice none 0 0] 25 ?_; intro gb514 hg w26 hbox hb; have GE514 := sh_z (w := w) hg; have NB503_514 := sh_n BK503 hg; have NB504_514 := sh_n BK504 hg; have NB514_503 := sh_s NB503_514; have NB514_504 := sh_s NB504_514; replace HO510 := Aside0.mk (Kd.R_below (by (with_reducible repeat (first | apply Kd.R_alloc | apply Kd.R_drewN | apply Kd.R_drew)); exact HO510.out) hb); replace HO513 := Aside0.mk (Kd.R_below (by (with_reducible repeat (first | apply Kd.R_alloc | apply Kd.R_drewN | apply Kd.R_drew)); exact HO513.out) hb); replace BK503 := sh_k BK503 hb; replace BK504 := sh_k BK504 hb; replace HB := sh_b (w := w) hb; have BK514 := Aside0.mk (hbox); clear hb hbox hg; obtain ⟨Ao27, co27, eo27⟩ := Kd.R_slice HO510.out; subst eo27; have hnb28 := NB514_503.out; have hnc28 := NB503_514.out; have hnb29 := NB514_504.out; have hnc29 := NB504_514.out; have hcz30 := blk_all2 BK514.out; obtain ⟨Ao31, co31, eo31⟩ := Kd.R_slice HO513.out; subst eo31))
       have n0_ : Aside0 (Kd.R k52 52 ((w26.setCell ⟨gb514, 0, none⟩ (.slice Ao27 t508.length co27)).setCell ⟨gb514, 1, none⟩ (.slice Ao31 t511.length co31)) w.heap.size (fun k_ => k_ ≠ gb504) (.slice Ao27 t508.length co27) t508) := ⟨by (with_reducible repeat (first | apply Kd.R_alloc | apply Kd.R_drewN | apply Kd.R_drew)); exact Kd.R_mono (Kd.R_far (p := ⟨gb514, 1, none⟩) (Kd.R_far (p := ⟨gb514, 0, none⟩) (Kd.R_types HO510.out BK514.out (by decide)) (fun _ hk => hk.2) (.slice Ao27 t508.length co27)) (fun _ hk => hk.2) (.slice Ao31 t511.length co31)) (fun _ hk => hk.1.2)⟩
       have n1_ : Aside0 (Kd.R k40 40 ((w26.setCell ⟨gb514, 0, none⟩ (.slice Ao27 t508.length co27)).setCell ⟨gb514, 1, none⟩ (.slice Ao31 t511.length co31)) w.heap.size (fun _ => True) (.slice Ao31 t511.length co31) t511) := ⟨by (with_reducible repeat (first | apply Kd.R_alloc | apply Kd.R_drewN | apply Kd.R_drew)); exact Kd.R_mono (Kd.R_far (p := ⟨gb514, 1, none⟩) (Kd.R_far (p := ⟨gb514, 0, none⟩) (Kd.R_types HO513.out BK514.out (by decide)) (fun _ hk => hk.2) (.slice Ao27 t508.length co27)) (fun _ hk => hk.2) (.slice Ao31 t511.length co31)) (fun _ hk => trivial)⟩
       have n2_ : Aside0 (((w26.setCell ⟨gb514, 0, none⟩ (.slice Ao27 t508.length co27)).setCell ⟨gb514, 1, none⟩ (.slice Ao31 t511.length co31)).heap[gb503]? = some (.cells #[.slice A0_0 l0_0.length c0_0, .slice A0_1 l0_1.length c0_1] 25 (0, 0))) := ⟨bk_now⟩
       have n3_ : Aside0 (((w26.setCell ⟨gb514, 0, none⟩ (.slice Ao27 t508.length co27)).setCell ⟨gb514, 1, none⟩ (.slice Ao31 t511.length co31)).heap[gb504]? = some (.cells #[.int .i64 a1_0, .int .i64 a1_1, .int .i64 a1_2, .int .i64 a1_3] 52 (0, 0))) := ⟨bk_now⟩
       have n4_ : Aside0 (((w26.setCell ⟨gb514, 0, none⟩ (.slice Ao27 t508.length co27)).setCell ⟨gb514, 1, none⟩ (.slice Ao31 t511.length co31)).heap[gb514]? = some (.cells #[.slice Ao27 t508.length co27, .slice Ao31 t511.length co31] 25 (0, 0))) := ⟨bk_now⟩
       have n5_ : Aside0 (Below w.heap.size w ((w26.setCell ⟨gb514, 0, none⟩ (.slice Ao27 t508.length co27)).setCell ⟨gb514, 1, none⟩ (.slice Ao31 t511.length co31))) := ⟨b_now⟩
       (try clear HO510)
       (try clear HO513)
       (try clear BK503)
       (try clear BK504)
       (try clear BK514)
       (try clear HB)
       generalize ((w26.setCell ⟨gb514, 0, none⟩ (.slice Ao27 t508.length co27)).setCell ⟨gb514, 1, none⟩ (.slice Ao31 t511.length co31)) = w32 at n0_ n1_ n2_ n3_ n4_ n5_ ⊢
       have HO510 := n0_
       have HO513 := n1_
       have BK503 := n2_
       have BK504 := n3_
       have BK514 := n4_
       have HB := n5_
       clear n0_ n1_ n2_ n3_ n4_ n5_
       have n0_ := Aside0.mk (Kd.R_drew HO510.out)
       have n1_ := Aside0.mk (Kd.R_drew HO513.out)
       have n2_ := Aside0.mk (blk_drew BK503.out)
       have n3_ := Aside0.mk (blk_drew BK504.out)
       have n4_ := Aside0.mk (blk_drew BK514.out)
       have n5_ := Aside0.mk (below_drew1 HB.out)
       clear HO510
       clear HO513
       clear BK503
       clear BK504
       clear BK514
       clear HB
       have HO510 := n0_
       have HO513 := n1_
       have BK503 := n2_
       have BK504 := n3_
       have BK514 := n4_
       have HB := n5_
       clear n0_ n1_ n2_ n3_ n4_ n5_
       refine start_ (n := 7) (S := fun w' => w'.cell? ⟨gb514, 0, none⟩ = some (.slice Ao27 t508.length co27) ∧ w'.cell? ⟨gb514, 1, none⟩ = some (.slice Ao31 t511.length co31)) (ds := [6]) #[false, false, false, false, false, false, false] (by kernel_rfl) rfl rfl ⟨(blk_cell BK514.out 0).trans rfl, (blk_cell BK514.out 1).trans rfl⟩ (fun hHeld => ?_)
       generalize w32.drew = w33 at HO510 HO513 BK503 BK504 BK514 HB hHeld ⊢
       refine pure_ (i := 0) (N := some 19) (v := ?_) (a' := ?_) #[true, false, false, false, false, false, false] rfl rfl (by kernel_rfl) (fun _ _ _ h => h) (Or.inl ⟨by rfl, ?_⟩) ?_ ?_
       rotate_left
       ·intro w'
        go_simp
        with_reducible rfl
       rotate_left
       ·simp only [Act.put, List.setIfInBounds_toArray, List.set_cons_zero, List.set_cons_succ, i64_w, i32_w]
        rfl
       refine take_ (i := 1) (N := some 20) (v := ?_) (a' := ?_) #[true, true, false, false, false, false, false] rfl rfl (by kernel_rfl) (fun _ _ _ h => h) (Or.inl ⟨by rfl, ?_⟩) hHeld ?_ ?_
       rotate_left
       ·rintro w' ⟨s0, s1⟩
        go_simp
        with_reducible rfl
       rotate_left
       ·simp only [Act.put, List.setIfInBounds_toArray, List.set_cons_zero, List.set_cons_succ, i64_w, i32_w]
        rfl
       refine one_ (i := 2) (N := some 21) #[true, true, true, false, false, false, false] rfl rfl (by kernel_rfl) (by decide) (fun K hK => ?_)
       refine goes_ Tryd.func24 (by kernel_rfl) rfl #[] (by rfl) rfl rfl (by (try simp only [List.map_toArray, List.map_cons, List.map_nil]); first | done | rfl | (simp only [List.length_drop, List.length_take]; rfl)) ?_
       with_reducible refine (stockadelaw04_exit.calls  t515 t516 t517 t518 t519 _ A18.out).mono ?_
       rintro e w34 ⟨rfl, hb⟩
       refine ⟨_, rfl, ?_⟩
       have n0_ := Aside0.mk (Kd.R_below (by (with_reducible repeat (first | apply Kd.R_alloc | apply Kd.R_drewN | apply Kd.R_drew)); exact HO510.out) hb)
       have n1_ := Aside0.mk (Kd.R_below (by (with_reducible repeat (first | apply Kd.R_alloc | apply Kd.R_drewN | apply Kd.R_drew)); exact HO513.out) hb)
       have n2_ := Aside0.mk (blk_below (g := gb503) (o := .cells #[.slice A0_0 l0_0.length c0_0, .slice A0_1 l0_1.length c0_1] 25 (0, 0)) bk_now hb)
       have n3_ := Aside0.mk (blk_below (g := gb504) (o := .cells #[.int .i64 a1_0, .int .i64 a1_1, .int .i64 a1_2, .int .i64 a1_3] 52 (0, 0)) bk_now hb)
       have n4_ := Aside0.mk (blk_below (g := gb514) (o := .cells #[.slice Ao27 t508.length co27, .slice Ao31 t511.length co31] 25 (0, 0)) bk_now hb)
       have n5_ := Aside0.mk (below_step b_now hb)
       clear HO510
       clear HO513
       clear BK503
       clear BK504
       clear BK514
       clear HB
       have HO510 := n0_
       have HO513 := n1_
       have BK503 := n2_
       have BK504 := n3_
       have BK514 := n4_
       have HB := n5_
       clear n0_ n1_ n2_ n3_ n4_ n5_
       (try clear hb)
       (try clear hb2)
       (try clear hk)
       (try clear hi)
       refine hK.out _ _ ⟨(blk_cell BK514.out 0).trans rfl, (blk_cell BK514.out 1).trans rfl⟩ (fun hHeld => ?_)
       clear hK K
       refine norm_ (a' := ?_) ?_ ?_
       rotate_left
       ·show Act.put _ (some 21) _ = _
        simp only [Act.put, List.setIfInBounds_toArray, List.set_cons_zero, List.set_cons_succ, i64_w, i32_w]
        rfl
       refine one_ (i := 3) (N := some 22) #[true, true, true, true, false, false, false] rfl rfl (by kernel_rfl) (by decide) (fun K hK => ?_)
       refine value_ (w1 := ?_) (v := ?_) (by rfl) rfl ?_ ?_
       rotate_left 2
       ·go_simp
        constructor
        ·rfl
        ·rfl
       refine hK.out _ _ ⟨(blk_cell (blk_alloc BK514.out _) 0).trans rfl, (blk_cell (blk_alloc BK514.out _) 1).trans rfl⟩ (fun hHeld => ?_)
       clear hK K
       refine norm_ (a' := ?_) ?_ ?_
       rotate_left
       ·show Act.put _ (some 22) _ = _
        simp only [Act.put, List.setIfInBounds_toArray, List.set_cons_zero, List.set_cons_succ, i64_w, i32_w]
        rfl
       refine one_ (i := 4) (N := some 23) #[true, true, true, true, true, false, false] rfl rfl (by kernel_rfl) (by decide) (fun K hK => ?_)
       refine Kd.R_append_step k40 (w0 := w) w.heap.size (by rfl) (.tmp 20) (.tmp 22) 23 40 (.agg #[(.int .u8 0), (.int .u8 0), (.int .u8 0), (.int .i16 0), (.int .i32 0)]) 12 rfl Tryd.underlying23 info40 rfl (by decide) (by omega) (.slice Ao31 t511.length co31) t511 (⟨t515, t516, t517, t518, t519⟩ : S40) [.int .u8 t515, .int .u8 t516, .int .u8 t517, .int .i16 t518, .int .i32 t519] (fun _ => True) (fun _ => False) rfl rfl ?aP (fun _ hk => hk.elim) ?aF ?aO ?aB ?aS ?aL ?_
       (case aP => exact k40_mkM _ _ _ (⟨t515, t516, t517, t518, t519⟩ : S40))
       (case aB => exact b_now)
       (case aF => exact (fun _ _ => trivial))
       (case aO => exact (by (with_reducible repeat (first | apply Kd.R_alloc | apply Kd.R_drewN | apply Kd.R_drew)); exact HO513.out))
       (case aS => exact (below_size b_now))
       (case aL => have := LMc19.out; omega)
       intro v521 w35 ho hb hg hat
       rw [← Ny520.out] at ho
       have n0_ := Aside0.mk (blk_grown (g := gb503) (o := .cells #[.slice A0_0 l0_0.length c0_0, .slice A0_1 l0_1.length c0_1] 25 (0, 0)) bk_now hg (Kd.R_ne HO513.out BK503.out (by decide)))
       have n1_ := Aside0.mk (blk_grown (g := gb504) (o := .cells #[.int .i64 a1_0, .int .i64 a1_1, .int .i64 a1_2, .int .i64 a1_3] 52 (0, 0)) bk_now hg (Kd.R_ne HO513.out BK504.out (by decide)))
       have n2_ := Aside0.mk (Kd.R_over' (by (with_reducible repeat (first | apply Kd.R_alloc | apply Kd.R_drewN | apply Kd.R_drew)); exact HO510.out) (Kd.R_typed (by (with_reducible repeat (first | apply Kd.R_alloc | apply Kd.R_drewN | apply Kd.R_drew)); exact HO513.out)) (by decide) hg)
       have n3_ := Aside0.mk (blk_grown (g := gb514) (o := .cells #[.slice Ao27 t508.length co27, .slice Ao31 t511.length co31] 25 (0, 0)) bk_now hg (Kd.R_ne HO513.out BK514.out (by decide)))
       have n4_ := Aside0.mk (hb)
       have n5_ := Aside0.mk (ho)
       clear BK503
       clear BK504
       clear HO510
       clear BK514
       clear HB
       clear HO513
       have BK503 := n0_
       have BK504 := n1_
       have HO510 := n2_
       have BK514 := n3_
       have HB := n4_
       have HO522 := n5_
       clear n0_ n1_ n2_ n3_ n4_ n5_
       clear ho hb hg hat
       obtain ⟨Ao36, co36, eo36⟩ := Kd.R_slice HO522.out
       (first | subst eo36 | (injection eo36 with f1_ f2_ f3_; have f4_ := f1_.symm; have f5_ := f3_.symm; clear f1_ f2_ f3_; subst f4_; subst f5_))
       refine hK.out _ _ ⟨(blk_cell BK514.out 0).trans rfl, (blk_cell BK514.out 1).trans rfl⟩ (fun hHeld => ?_)
       clear hK K
       refine norm_ (a' := ?_) ?_ ?_
       rotate_left
       ·show Act.put _ (some 23) _ = _
        simp only [Act.put, List.setIfInBounds_toArray, List.set_cons_zero, List.set_cons_succ, i64_w, i32_w]
        rfl
       refine pure_ (i := 5) (N := some 24) (v := ?_) (a' := ?_) #[true, true, true, true, true, true, false] rfl rfl (by kernel_rfl) (fun _ _ _ h => h) (Or.inl ⟨by rfl, ?_⟩) ?_ ?_
       rotate_left
       ·intro w'
        go_simp
        with_reducible rfl
       rotate_left
       ·simp only [Act.put, List.setIfInBounds_toArray, List.set_cons_zero, List.set_cons_succ, i64_w, i32_w]
        rfl
       refine last_ (i := 6) (N := none) #[true, true, true, true, true, true, true] rfl rfl (by kernel_rfl) (by decide) (fun K hK => ?_)
       have hs37 : w35.cell? ⟨gb514, 1, none⟩ = some (.slice Ao31 t511.length co31) := (blk_cell BK514.out 1).trans rfl
       have hfs37 := blk_frozen BK514.out 1
       have hns37_0 := NB503_514.out
       have hns37_1 := NB504_514.out
       have hms37_0 := NB514_503.out
       have hms37_1 := NB514_504.out
       refine skip_ (w1 := ?_) (by rfl) rfl ?_ ?_
       rotate_left
       ·go_simp
        rfl
       refine hK.out _ _ ?_
       clear hK K
       refine done_ (by kernel_rfl) ?_
       have hcz38 := blk_all2 BK514.out
       try go_wp2_with (first | ((with_reducible refine gate_callee (f := 11) rfl ?_); refine sh_call (some 27) Tryd.func11 #[.agg #[.slice Ao27 t508.length co27, .slice Ao36 y520.length co36]] ?_; (with_reducible refine (shape_Check.calls _ _ t508 _ _ y520 t523 t524 _ ?side1 ?side2 ?side3 ?side4 ?side5 A20.out).mono ?_); (case side1 => refine (Kd.R_reads' (e := 52) (base := w.heap.size) (ok := fun k_ => k_ ≠ gb504) (n := t508.length) (c := co27) ?_).2.2; exact (by (with_reducible repeat (first | apply Kd.R_alloc | apply Kd.R_drewN | apply Kd.R_drew)); exact (Kd.R_mono (Kd.R_far (p := ⟨gb514, 1, none⟩) (Kd.R_types HO510.out BK514.out (by decide)) (fun _ hk => hk.2) (.slice Ao36 y520.length co36)) (fun _ h_ => h_.1)))); (case side2 => exact (Kd.R_reads' HO510.out).2.1); (case side3 => refine (Kd.R_reads' (e := 40) (base := w.heap.size) (ok := fun k_ => True) (n := y520.length) (c := co36) ?_).2.2; exact (by (with_reducible repeat (first | apply Kd.R_alloc | apply Kd.R_drewN | apply Kd.R_drew)); exact (Kd.R_mono (Kd.R_far (p := ⟨gb514, 1, none⟩) (Kd.R_types HO522.out BK514.out (by decide)) (fun _ hk => hk.2) (.slice Ao36 y520.length co36)) (fun _ h_ => h_.1)))); (case side4 => exact (Kd.R_reads' HO522.out).2.1); (case side5 => exact Kd.C_below HRG0.out b_now); rintro e w39 ⟨rfl, hb⟩; refine ⟨_, rfl, ?_⟩; replace HO510 := Aside0.mk (Kd.R_below (by (with_reducible repeat (first | apply Kd.R_alloc | apply Kd.R_drewN | apply Kd.R_drew)); exact (Kd.R_mono (Kd.R_far (p := ⟨gb514, 1, none⟩) (Kd.R_types HO510.out BK514.out (by decide)) (fun _ hk => hk.2) (.slice Ao36 y520.length co36)) (fun _ h_ => h_.1))) hb); replace HO522 := Aside0.mk (Kd.R_below (by (with_reducible repeat (first | apply Kd.R_alloc | apply Kd.R_drewN | apply Kd.R_drew)); exact (Kd.R_mono (Kd.R_far (p := ⟨gb514, 1, none⟩) (Kd.R_types HO522.out BK514.out (by decide)) (fun _ hk => hk.2) (.slice Ao36 y520.length co36)) (fun _ h_ => h_.1))) hb); replace BK503 := sh_kp (g := gb503) (t := 25) #[.slice A0_0 l0_0.length c0_0, .slice A0_1 l0_1.length c0_1] hb; replace BK504 := sh_kp (g := gb504) (t := 52) #[.int .i64 a1_0, .int .i64 a1_1, .int .i64 a1_2, .int .i64 a1_3] hb; replace BK514 := sh_kp (g := gb514) (t := 25) #[.slice Ao27 t508.length co27, .slice Ao36 y520.length co36] hb; replace HB := sh_b (w := w) hb; (try clear hb); (try clear hb2); (try clear hk); (try clear hi); have hcz40 := blk_all2 BK514.out))
       go_ret
       exact ⟨ret_now, b_now⟩
      ·rw [if_neg c22] at H
       have c22b0 : (t523 == 0) = false := beq_eq_false_iff_ne.mpr c22
       have c22b1 : (t523 != 0) = true := bne_iff_ne.mpr c22
       obtain rfl := Option.some.inj H
       exact absurd HRT.out (by simp)
     ·rw [if_neg c21] at H
      have c21b0 : decide (512 < (y520.length : Int)) = false := decide_eq_false c21
      have c21b1 : decide (512 < y520.length) = false := decide_eq_false (by omega)
      clear c21
      by_cases c41 : t524 = 0
      ·rw [if_pos c41] at H
       have c41b0 : (t524 == 0) = true := beq_iff_eq.mpr c41
       have c41b1 : (t524 != 0) = false := bne_eq_false_iff_eq.mpr c41
       clear c41
       replace H := Option.bind_eq_some_iff.mp H; obtain ⟨⟨t525, t528⟩, A420, H⟩ := H; try dsimp only at H
       have A42 := Aside0.mk A420
       clear A420
       by_cases c43 : t525.length < 4398046511104
       ·rw [if_pos c43] at H
        have LMc43 := Aside0.mk c43
        clear c43
        obtain ⟨y531, hy531⟩ : ∃ y_ : List (S52), y_ = (t525 ++ [(⟨a1_0, a1_1, a1_2, a1_3⟩ : S52)]) := ⟨_, rfl⟩
        replace H : ((shape_Check.f y531 t528).bind fun bt534 => (if (y531.length : Int) > 4 then (if bt534.1 = 0 then (some (bt534.2 == 3)) else (some false)) else ((stockadelaw04_exit.f).bind fun bt539 => ((stockadelaw04_right.f (([(⟨a1_0, a1_1, a1_2, a1_3⟩ : S52)] : List (S52))) (([(⟨bt539.1, bt539.2.1, bt539.2.2.1, bt539.2.2.2.1, bt539.2.2.2.2⟩ : S40)] : List (S40)))).bind fun t547 => (if (t547 == (bt534.2 == 0)) = true then (if t547 = true then (some true) else (if bt534.2 = 26 then (some (bt534.1 == (l0_0.length : Int))) else (some false))) else (some false)))))) = some r := by first | (rw [hy531]; with_reducible exact H) | (have H2_ := (Option.bind_some _ _).symm.trans H; rw [hy531]; with_reducible exact H2_) | (have H2_ := (Option.bind_some _ _).symm.trans H; with_reducible exact H2_) | with_reducible exact H | (rw [hy531]; exact H) | exact H
        have Ny531 := Aside0.mk hy531
        clear hy531
        replace H := Option.bind_eq_some_iff.mp H; obtain ⟨⟨t534, t535⟩, A440, H⟩ := H; try dsimp only at H
        have A44 := Aside0.mk A440
        clear A440
        by_cases c45 : (y531.length : Int) > 4
        ·rw [if_pos c45] at H
         have c45b0 : decide (4 < (y531.length : Int)) = true := decide_eq_true c45
         have c45b1 : decide (4 < y531.length) = true := decide_eq_true (by omega)
         clear c45
         by_cases c46 : t534 = 0
         ·rw [if_pos c46] at H
          have c46b0 : (t534 == 0) = true := beq_iff_eq.mpr c46
          have c46b1 : (t534 != 0) = false := bne_eq_false_iff_eq.mpr c46
          clear c46
          obtain rfl := Option.some.inj H
          have hnb47 := NB503_504.out
          have hnc47 := NB504_503.out
          have hcz48 := blk_all2 BK503.out
          try go_wp2_with (first | ((with_reducible refine gate_callee (f := 10) rfl ?_); refine sh_call (some 18) Tryd.func10 #[.agg #[.slice A0_0 l0_0.length c0_0, .slice A0_1 l0_1.length c0_1]] ?_; (with_reducible refine (stockadelaw04_twin.calls _ _ l0_0 _ _ l0_1 t508 t511 _ ?side1 ?side2 ?side3 ?side4 A17.out).mono ?_); (case side1 => repeat (first | exact (Kd.C_below HR0_0.out HB.out) | (with_reducible refine Kd.C_alloc ?_ _) | (with_reducible refine Kd.C_drewN ?_ _) | (with_reducible refine Kd.C_drew ?_))); (case side2 => exact HC0_0.out); (case side3 => repeat (first | exact (Kd.C_below HR0_1.out HB.out) | (with_reducible refine Kd.C_alloc ?_ _) | (with_reducible refine Kd.C_drewN ?_ _) | (with_reducible refine Kd.C_drew ?_))); (case side4 => exact HC0_1.out); rintro e w49 ⟨v509, v512, rfl, ho0, ho1, hb⟩; refine ⟨_, rfl, ?_⟩; have HO510 := Aside0.mk (Kd.R_lower (Kd.R_newB ho0 (g := gb504) (o := .cells #[.int .i64 a1_0, .int .i64 a1_1, .int .i64 a1_2, .int .i64 a1_3] 52 (0, 0)) bk_now) (below_size b_now)); have HO513 := Aside0.mk (Kd.R_lower ho1 (below_size b_now)); replace BK503 := sh_k BK503 hb; replace BK504 := sh_k BK504 hb; replace HB := sh_b (w := w) hb; (try clear hb); (try clear hb2); (try clear hk); (try clear hi); (try clear ho0); (try clear ho1)) | ((with_reducible refine gate_dst (N := 5) rfl ?_); (try (refine gate_guard (by rfl) ?_; dsimp only)); refine sh_box 5 #[.slice none 0 0, .slice none 0 0] 25 ?_; intro gb514 hg w50 hbox hb; have GE514 := sh_z (w := w) hg; have NB503_514 := sh_n BK503 hg; have NB504_514 := sh_n BK504 hg; have NB514_503 := sh_s NB503_514; have NB514_504 := sh_s NB504_514; replace HO510 := Aside0.mk (Kd.R_below (by (with_reducible repeat (first | apply Kd.R_alloc | apply Kd.R_drewN | apply Kd.R_drew)); exact HO510.out) hb); replace HO513 := Aside0.mk (Kd.R_below (by (with_reducible repeat (first | apply Kd.R_alloc | apply Kd.R_drewN | apply Kd.R_drew)); exact HO513.out) hb); replace BK503 := sh_k BK503 hb; replace BK504 := sh_k BK504 hb; replace HB := sh_b (w := w) hb; have BK514 := Aside0.mk (hbox); clear hb hbox hg; obtain ⟨Ao51, co51, eo51⟩ := Kd.R_slice HO510.out; subst eo51; have hnb52 := NB514_503.out; have hnc52 := NB503_514.out; have hnb53 := NB514_504.out; have hnc53 := NB504_514.out; have hcz54 := blk_all2 BK514.out; obtain ⟨Ao55, co55, eo55⟩ := Kd.R_slice HO513.out; subst eo55))
          have n0_ : Aside0 (Kd.R k52 52 ((w50.setCell ⟨gb514, 0, none⟩ (.slice Ao51 t508.length co51)).setCell ⟨gb514, 1, none⟩ (.slice Ao55 t511.length co55)) w.heap.size (fun k_ => k_ ≠ gb504) (.slice Ao51 t508.length co51) t508) := ⟨by (with_reducible repeat (first | apply Kd.R_alloc | apply Kd.R_drewN | apply Kd.R_drew)); exact Kd.R_mono (Kd.R_far (p := ⟨gb514, 1, none⟩) (Kd.R_far (p := ⟨gb514, 0, none⟩) (Kd.R_types HO510.out BK514.out (by decide)) (fun _ hk => hk.2) (.slice Ao51 t508.length co51)) (fun _ hk => hk.2) (.slice Ao55 t511.length co55)) (fun _ hk => hk.1.2)⟩
          have n1_ : Aside0 (Kd.R k40 40 ((w50.setCell ⟨gb514, 0, none⟩ (.slice Ao51 t508.length co51)).setCell ⟨gb514, 1, none⟩ (.slice Ao55 t511.length co55)) w.heap.size (fun _ => True) (.slice Ao55 t511.length co55) t511) := ⟨by (with_reducible repeat (first | apply Kd.R_alloc | apply Kd.R_drewN | apply Kd.R_drew)); exact Kd.R_mono (Kd.R_far (p := ⟨gb514, 1, none⟩) (Kd.R_far (p := ⟨gb514, 0, none⟩) (Kd.R_types HO513.out BK514.out (by decide)) (fun _ hk => hk.2) (.slice Ao51 t508.length co51)) (fun _ hk => hk.2) (.slice Ao55 t511.length co55)) (fun _ hk => trivial)⟩
          have n2_ : Aside0 (((w50.setCell ⟨gb514, 0, none⟩ (.slice Ao51 t508.length co51)).setCell ⟨gb514, 1, none⟩ (.slice Ao55 t511.length co55)).heap[gb503]? = some (.cells #[.slice A0_0 l0_0.length c0_0, .slice A0_1 l0_1.length c0_1] 25 (0, 0))) := ⟨bk_now⟩
          have n3_ : Aside0 (((w50.setCell ⟨gb514, 0, none⟩ (.slice Ao51 t508.length co51)).setCell ⟨gb514, 1, none⟩ (.slice Ao55 t511.length co55)).heap[gb504]? = some (.cells #[.int .i64 a1_0, .int .i64 a1_1, .int .i64 a1_2, .int .i64 a1_3] 52 (0, 0))) := ⟨bk_now⟩
          have n4_ : Aside0 (((w50.setCell ⟨gb514, 0, none⟩ (.slice Ao51 t508.length co51)).setCell ⟨gb514, 1, none⟩ (.slice Ao55 t511.length co55)).heap[gb514]? = some (.cells #[.slice Ao51 t508.length co51, .slice Ao55 t511.length co55] 25 (0, 0))) := ⟨bk_now⟩
          have n5_ : Aside0 (Below w.heap.size w ((w50.setCell ⟨gb514, 0, none⟩ (.slice Ao51 t508.length co51)).setCell ⟨gb514, 1, none⟩ (.slice Ao55 t511.length co55))) := ⟨b_now⟩
          (try clear HO510)
          (try clear HO513)
          (try clear BK503)
          (try clear BK504)
          (try clear BK514)
          (try clear HB)
          generalize ((w50.setCell ⟨gb514, 0, none⟩ (.slice Ao51 t508.length co51)).setCell ⟨gb514, 1, none⟩ (.slice Ao55 t511.length co55)) = w56 at n0_ n1_ n2_ n3_ n4_ n5_ ⊢
          have HO510 := n0_
          have HO513 := n1_
          have BK503 := n2_
          have BK504 := n3_
          have BK514 := n4_
          have HB := n5_
          clear n0_ n1_ n2_ n3_ n4_ n5_
          have n0_ := Aside0.mk (Kd.R_drew HO510.out)
          have n1_ := Aside0.mk (Kd.R_drew HO513.out)
          have n2_ := Aside0.mk (blk_drew BK503.out)
          have n3_ := Aside0.mk (blk_drew BK504.out)
          have n4_ := Aside0.mk (blk_drew BK514.out)
          have n5_ := Aside0.mk (below_drew1 HB.out)
          clear HO510
          clear HO513
          clear BK503
          clear BK504
          clear BK514
          clear HB
          have HO510 := n0_
          have HO513 := n1_
          have BK503 := n2_
          have BK504 := n3_
          have BK514 := n4_
          have HB := n5_
          clear n0_ n1_ n2_ n3_ n4_ n5_
          refine start_ (n := 7) (S := fun w' => w'.cell? ⟨gb514, 0, none⟩ = some (.slice Ao51 t508.length co51) ∧ w'.cell? ⟨gb514, 1, none⟩ = some (.slice Ao55 t511.length co55)) (ds := [6]) #[false, false, false, false, false, false, false] (by kernel_rfl) rfl rfl ⟨(blk_cell BK514.out 0).trans rfl, (blk_cell BK514.out 1).trans rfl⟩ (fun hHeld => ?_)
          generalize w56.drew = w57 at HO510 HO513 BK503 BK504 BK514 HB hHeld ⊢
          refine pure_ (i := 0) (N := some 19) (v := ?_) (a' := ?_) #[true, false, false, false, false, false, false] rfl rfl (by kernel_rfl) (fun _ _ _ h => h) (Or.inl ⟨by rfl, ?_⟩) ?_ ?_
          rotate_left
          ·intro w'
           go_simp
           with_reducible rfl
          rotate_left
          ·simp only [Act.put, List.setIfInBounds_toArray, List.set_cons_zero, List.set_cons_succ, i64_w, i32_w]
           rfl
          refine take_ (i := 1) (N := some 20) (v := ?_) (a' := ?_) #[true, true, false, false, false, false, false] rfl rfl (by kernel_rfl) (fun _ _ _ h => h) (Or.inl ⟨by rfl, ?_⟩) hHeld ?_ ?_
          rotate_left
          ·rintro w' ⟨s0, s1⟩
           go_simp
           with_reducible rfl
          rotate_left
          ·simp only [Act.put, List.setIfInBounds_toArray, List.set_cons_zero, List.set_cons_succ, i64_w, i32_w]
           rfl
          refine one_ (i := 2) (N := some 21) #[true, true, true, false, false, false, false] rfl rfl (by kernel_rfl) (by decide) (fun K hK => ?_)
          refine goes_ Tryd.func24 (by kernel_rfl) rfl #[] (by rfl) rfl rfl (by (try simp only [List.map_toArray, List.map_cons, List.map_nil]); first | done | rfl | (simp only [List.length_drop, List.length_take]; rfl)) ?_
          with_reducible refine (stockadelaw04_exit.calls  t515 t516 t517 t518 t519 _ A18.out).mono ?_
          rintro e w58 ⟨rfl, hb⟩
          refine ⟨_, rfl, ?_⟩
          have n0_ := Aside0.mk (Kd.R_below (by (with_reducible repeat (first | apply Kd.R_alloc | apply Kd.R_drewN | apply Kd.R_drew)); exact HO510.out) hb)
          have n1_ := Aside0.mk (Kd.R_below (by (with_reducible repeat (first | apply Kd.R_alloc | apply Kd.R_drewN | apply Kd.R_drew)); exact HO513.out) hb)
          have n2_ := Aside0.mk (blk_below (g := gb503) (o := .cells #[.slice A0_0 l0_0.length c0_0, .slice A0_1 l0_1.length c0_1] 25 (0, 0)) bk_now hb)
          have n3_ := Aside0.mk (blk_below (g := gb504) (o := .cells #[.int .i64 a1_0, .int .i64 a1_1, .int .i64 a1_2, .int .i64 a1_3] 52 (0, 0)) bk_now hb)
          have n4_ := Aside0.mk (blk_below (g := gb514) (o := .cells #[.slice Ao51 t508.length co51, .slice Ao55 t511.length co55] 25 (0, 0)) bk_now hb)
          have n5_ := Aside0.mk (below_step b_now hb)
          clear HO510
          clear HO513
          clear BK503
          clear BK504
          clear BK514
          clear HB
          have HO510 := n0_
          have HO513 := n1_
          have BK503 := n2_
          have BK504 := n3_
          have BK514 := n4_
          have HB := n5_
          clear n0_ n1_ n2_ n3_ n4_ n5_
          (try clear hb)
          (try clear hb2)
          (try clear hk)
          (try clear hi)
          refine hK.out _ _ ⟨(blk_cell BK514.out 0).trans rfl, (blk_cell BK514.out 1).trans rfl⟩ (fun hHeld => ?_)
          clear hK K
          refine norm_ (a' := ?_) ?_ ?_
          rotate_left
          ·show Act.put _ (some 21) _ = _
           simp only [Act.put, List.setIfInBounds_toArray, List.set_cons_zero, List.set_cons_succ, i64_w, i32_w]
           rfl
          refine one_ (i := 3) (N := some 22) #[true, true, true, true, false, false, false] rfl rfl (by kernel_rfl) (by decide) (fun K hK => ?_)
          refine value_ (w1 := ?_) (v := ?_) (by rfl) rfl ?_ ?_
          rotate_left 2
          ·go_simp
           constructor
           ·rfl
           ·rfl
          refine hK.out _ _ ⟨(blk_cell (blk_alloc BK514.out _) 0).trans rfl, (blk_cell (blk_alloc BK514.out _) 1).trans rfl⟩ (fun hHeld => ?_)
          clear hK K
          refine norm_ (a' := ?_) ?_ ?_
          rotate_left
          ·show Act.put _ (some 22) _ = _
           simp only [Act.put, List.setIfInBounds_toArray, List.set_cons_zero, List.set_cons_succ, i64_w, i32_w]
           rfl
          refine one_ (i := 4) (N := some 23) #[true, true, true, true, true, false, false] rfl rfl (by kernel_rfl) (by decide) (fun K hK => ?_)
          refine Kd.R_append_step k40 (w0 := w) w.heap.size (by rfl) (.tmp 20) (.tmp 22) 23 40 (.agg #[(.int .u8 0), (.int .u8 0), (.int .u8 0), (.int .i16 0), (.int .i32 0)]) 12 rfl Tryd.underlying23 info40 rfl (by decide) (by omega) (.slice Ao55 t511.length co55) t511 (⟨t515, t516, t517, t518, t519⟩ : S40) [.int .u8 t515, .int .u8 t516, .int .u8 t517, .int .i16 t518, .int .i32 t519] (fun _ => True) (fun _ => False) rfl rfl ?aP (fun _ hk => hk.elim) ?aF ?aO ?aB ?aS ?aL ?_
          (case aP => exact k40_mkM _ _ _ (⟨t515, t516, t517, t518, t519⟩ : S40))
          (case aB => exact b_now)
          (case aF => exact (fun _ _ => trivial))
          (case aO => exact (by (with_reducible repeat (first | apply Kd.R_alloc | apply Kd.R_drewN | apply Kd.R_drew)); exact HO513.out))
          (case aS => exact (below_size b_now))
          (case aL => have := LMc19.out; omega)
          intro v521 w59 ho hb hg hat
          rw [← Ny520.out] at ho
          have n0_ := Aside0.mk (blk_grown (g := gb503) (o := .cells #[.slice A0_0 l0_0.length c0_0, .slice A0_1 l0_1.length c0_1] 25 (0, 0)) bk_now hg (Kd.R_ne HO513.out BK503.out (by decide)))
          have n1_ := Aside0.mk (blk_grown (g := gb504) (o := .cells #[.int .i64 a1_0, .int .i64 a1_1, .int .i64 a1_2, .int .i64 a1_3] 52 (0, 0)) bk_now hg (Kd.R_ne HO513.out BK504.out (by decide)))
          have n2_ := Aside0.mk (Kd.R_over' (by (with_reducible repeat (first | apply Kd.R_alloc | apply Kd.R_drewN | apply Kd.R_drew)); exact HO510.out) (Kd.R_typed (by (with_reducible repeat (first | apply Kd.R_alloc | apply Kd.R_drewN | apply Kd.R_drew)); exact HO513.out)) (by decide) hg)
          have n3_ := Aside0.mk (blk_grown (g := gb514) (o := .cells #[.slice Ao51 t508.length co51, .slice Ao55 t511.length co55] 25 (0, 0)) bk_now hg (Kd.R_ne HO513.out BK514.out (by decide)))
          have n4_ := Aside0.mk (hb)
          have n5_ := Aside0.mk (ho)
          clear BK503
          clear BK504
          clear HO510
          clear BK514
          clear HB
          clear HO513
          have BK503 := n0_
          have BK504 := n1_
          have HO510 := n2_
          have BK514 := n3_
          have HB := n4_
          have HO522 := n5_
          clear n0_ n1_ n2_ n3_ n4_ n5_
          clear ho hb hg hat
          obtain ⟨Ao60, co60, eo60⟩ := Kd.R_slice HO522.out
          (first | subst eo60 | (injection eo60 with f1_ f2_ f3_; have f4_ := f1_.symm; have f5_ := f3_.symm; clear f1_ f2_ f3_; subst f4_; subst f5_))
          refine hK.out _ _ ⟨(blk_cell BK514.out 0).trans rfl, (blk_cell BK514.out 1).trans rfl⟩ (fun hHeld => ?_)
          clear hK K
          refine norm_ (a' := ?_) ?_ ?_
          rotate_left
          ·show Act.put _ (some 23) _ = _
           simp only [Act.put, List.setIfInBounds_toArray, List.set_cons_zero, List.set_cons_succ, i64_w, i32_w]
           rfl
          refine pure_ (i := 5) (N := some 24) (v := ?_) (a' := ?_) #[true, true, true, true, true, true, false] rfl rfl (by kernel_rfl) (fun _ _ _ h => h) (Or.inl ⟨by rfl, ?_⟩) ?_ ?_
          rotate_left
          ·intro w'
           go_simp
           with_reducible rfl
          rotate_left
          ·simp only [Act.put, List.setIfInBounds_toArray, List.set_cons_zero, List.set_cons_succ, i64_w, i32_w]
           rfl
          refine last_ (i := 6) (N := none) #[true, true, true, true, true, true, true] rfl rfl (by kernel_rfl) (by decide) (fun K hK => ?_)
          have hs61 : w59.cell? ⟨gb514, 1, none⟩ = some (.slice Ao55 t511.length co55) := (blk_cell BK514.out 1).trans rfl
          have hfs61 := blk_frozen BK514.out 1
          have hns61_0 := NB503_514.out
          have hns61_1 := NB504_514.out
          have hms61_0 := NB514_503.out
          have hms61_1 := NB514_504.out
          refine skip_ (w1 := ?_) (by rfl) rfl ?_ ?_
          rotate_left
          ·go_simp
           rfl
          refine hK.out _ _ ?_
          clear hK K
          refine done_ (by kernel_rfl) ?_
          have hcz62 := blk_all2 BK514.out
          try go_wp2_with (first | ((with_reducible refine gate_callee (f := 11) rfl ?_); refine sh_call (some 27) Tryd.func11 #[.agg #[.slice Ao51 t508.length co51, .slice Ao60 y520.length co60]] ?_; (with_reducible refine (shape_Check.calls _ _ t508 _ _ y520 t523 t524 _ ?side1 ?side2 ?side3 ?side4 ?side5 A20.out).mono ?_); (case side1 => refine (Kd.R_reads' (e := 52) (base := w.heap.size) (ok := fun k_ => k_ ≠ gb504) (n := t508.length) (c := co51) ?_).2.2; exact (by (with_reducible repeat (first | apply Kd.R_alloc | apply Kd.R_drewN | apply Kd.R_drew)); exact (Kd.R_mono (Kd.R_far (p := ⟨gb514, 1, none⟩) (Kd.R_types HO510.out BK514.out (by decide)) (fun _ hk => hk.2) (.slice Ao60 y520.length co60)) (fun _ h_ => h_.1)))); (case side2 => exact (Kd.R_reads' HO510.out).2.1); (case side3 => refine (Kd.R_reads' (e := 40) (base := w.heap.size) (ok := fun k_ => True) (n := y520.length) (c := co60) ?_).2.2; exact (by (with_reducible repeat (first | apply Kd.R_alloc | apply Kd.R_drewN | apply Kd.R_drew)); exact (Kd.R_mono (Kd.R_far (p := ⟨gb514, 1, none⟩) (Kd.R_types HO522.out BK514.out (by decide)) (fun _ hk => hk.2) (.slice Ao60 y520.length co60)) (fun _ h_ => h_.1)))); (case side4 => exact (Kd.R_reads' HO522.out).2.1); (case side5 => exact Kd.C_below HRG0.out b_now); rintro e w63 ⟨rfl, hb⟩; refine ⟨_, rfl, ?_⟩; replace HO510 := Aside0.mk (Kd.R_below (by (with_reducible repeat (first | apply Kd.R_alloc | apply Kd.R_drewN | apply Kd.R_drew)); exact (Kd.R_mono (Kd.R_far (p := ⟨gb514, 1, none⟩) (Kd.R_types HO510.out BK514.out (by decide)) (fun _ hk => hk.2) (.slice Ao60 y520.length co60)) (fun _ h_ => h_.1))) hb); replace HO522 := Aside0.mk (Kd.R_below (by (with_reducible repeat (first | apply Kd.R_alloc | apply Kd.R_drewN | apply Kd.R_drew)); exact (Kd.R_mono (Kd.R_far (p := ⟨gb514, 1, none⟩) (Kd.R_types HO522.out BK514.out (by decide)) (fun _ hk => hk.2) (.slice Ao60 y520.length co60)) (fun _ h_ => h_.1))) hb); replace BK503 := sh_kp (g := gb503) (t := 25) #[.slice A0_0 l0_0.length c0_0, .slice A0_1 l0_1.length c0_1] hb; replace BK504 := sh_kp (g := gb504) (t := 52) #[.int .i64 a1_0, .int .i64 a1_1, .int .i64 a1_2, .int .i64 a1_3] hb; replace BK514 := sh_kp (g := gb514) (t := 25) #[.slice Ao51 t508.length co51, .slice Ao60 y520.length co60] hb; replace HB := sh_b (w := w) hb; (try clear hb); (try clear hb2); (try clear hk); (try clear hi); have hcz64 := blk_all2 BK514.out; have hcz65 := blk_all2 BK503.out) | ((with_reducible refine gate_callee (f := 10) rfl ?_); refine sh_call (some 43) Tryd.func10 #[.agg #[.slice A0_0 l0_0.length c0_0, .slice A0_1 l0_1.length c0_1]] ?_; (with_reducible refine (stockadelaw04_twin.calls _ _ l0_0 _ _ l0_1 t525 t528 _ ?side1 ?side2 ?side3 ?side4 A42.out).mono ?_); (case side1 => repeat (first | exact (Kd.C_below HR0_0.out HB.out) | (with_reducible refine Kd.C_alloc ?_ _) | (with_reducible refine Kd.C_drewN ?_ _) | (with_reducible refine Kd.C_drew ?_))); (case side2 => exact HC0_0.out); (case side3 => repeat (first | exact (Kd.C_below HR0_1.out HB.out) | (with_reducible refine Kd.C_alloc ?_ _) | (with_reducible refine Kd.C_drewN ?_ _) | (with_reducible refine Kd.C_drew ?_))); (case side4 => exact HC0_1.out); rintro e w66 ⟨v526, v529, rfl, ho0, ho1, hb⟩; refine ⟨_, rfl, ?_⟩; have HO527 := Aside0.mk (Kd.R_lower (Kd.R_newB (Kd.R_new' ho0 (Kd.R_lt (by (with_reducible repeat (first | apply Kd.R_alloc | apply Kd.R_drewN | apply Kd.R_drew)); exact HO510.out))) (g := gb504) (o := .cells #[.int .i64 a1_0, .int .i64 a1_1, .int .i64 a1_2, .int .i64 a1_3] 52 (0, 0)) bk_now) (below_size b_now)); have HO530 := Aside0.mk (Kd.R_lower (Kd.R_new' ho1 (Kd.R_lt (by (with_reducible repeat (first | apply Kd.R_alloc | apply Kd.R_drewN | apply Kd.R_drew)); exact HO522.out))) (below_size b_now)); replace HO510 := Aside0.mk (Kd.R_elder' (by (with_reducible repeat (first | apply Kd.R_alloc | apply Kd.R_drewN | apply Kd.R_drew)); exact HO510.out) (Kd.R_base ho0) hb); replace HO522 := Aside0.mk (Kd.R_elder' (by (with_reducible repeat (first | apply Kd.R_alloc | apply Kd.R_drewN | apply Kd.R_drew)); exact HO522.out) (Kd.R_base ho1) hb); replace BK503 := sh_k BK503 hb; replace BK504 := sh_k BK504 hb; replace BK514 := sh_k BK514 hb; replace HB := sh_b (w := w) hb; (try clear hb); (try clear hb2); (try clear hk); (try clear hi); (try clear ho0); (try clear ho1); obtain ⟨Ao67, co67, eo67⟩ := Kd.R_slice HO527.out; subst eo67; have hcz68 := blk_all2 BK514.out; obtain ⟨Ao69, co69, eo69⟩ := Kd.R_slice HO530.out; subst eo69; have hcz70 := blk_all4 BK504.out) | ((with_reducible refine gate_builtin (b := .append) (xs := #[.tmp 45, .tmp 47]) rfl ?_); (try (refine gate_guard (by rfl) ?_; dsimp only)); at_builtin; refine Kd.R_append k52 (w0 := w) w.heap.size rfl (.tmp 45) (.tmp 47) 22 52 (.agg #[(.int .i64 0), (.int .i64 0), (.int .i64 0), (.int .i64 0)]) 32 rfl Tryd.underlying22 info52 rfl (by decide) (by omega) (.slice Ao67 t525.length co67) t525 (⟨a1_0, a1_1, a1_2, a1_3⟩ : S52) [.int .i64 a1_0, .int .i64 a1_1, .int .i64 a1_2, .int .i64 a1_3] (fun k_ => some k_ ≠ (.slice Ao51 t508.length co51 : Value).ownBlock ∧ k_ ≠ gb504) (fun _ => False) rfl (by first | (go_simp; done) | (go_simp; rfl)) ?aP (fun _ hk => hk.elim) ?aF ?aO ?aB ?aS ?aL ?_; (case aP => exact k52_mkM _ _ _ (⟨a1_0, a1_1, a1_2, a1_3⟩ : S52)); (case aB => exact b_now); (case aF => exact (fun k_ hk => ⟨Kd.fresh' (Kd.R_lt (by (with_reducible repeat (first | apply Kd.R_alloc | apply Kd.R_drewN | apply Kd.R_drew)); exact (Kd.R_mono (Kd.R_far (p := ⟨gb514, 1, none⟩) (Kd.R_far (p := ⟨gb514, 0, none⟩) (Kd.R_types HO510.out BK514.out (by decide)) (fun _ hk => hk.2) (.slice Ao67 t525.length co67)) (fun _ hk => hk.2) (.slice Ao69 t528.length co69)) (fun _ h_ => h_.1)))) k_ hk, Kd.freshB (g := gb504) (o := .cells #[.int .i64 a1_0, .int .i64 a1_1, .int .i64 a1_2, .int .i64 a1_3] 52 (0, 0)) bk_now k_ hk⟩)); (case aO => exact (by (with_reducible repeat (first | apply Kd.R_alloc | apply Kd.R_drewN | apply Kd.R_drew)); exact Kd.R_mono (Kd.R_far (p := ⟨gb514, 1, none⟩) (Kd.R_far (p := ⟨gb514, 0, none⟩) (Kd.R_types HO527.out BK514.out (by decide)) (fun _ hk => hk.2) (.slice Ao67 t525.length co67)) (fun _ hk => hk.2) (.slice Ao69 t528.length co69)) (fun _ hk => ⟨hk.1.1.2, hk.1.2⟩))); (case aS => exact (below_size b_now)); (case aL => have := LMc43.out; omega); intro v532 w71 ho hb hg hat; rw [← Ny531.out] at ho; have n0_ := Aside0.mk (blk_grown (g := gb503) (o := .cells #[.slice A0_0 l0_0.length c0_0, .slice A0_1 l0_1.length c0_1] 25 (0, 0)) bk_now hg (Kd.R_ne HO527.out BK503.out (by decide))); have n1_ := Aside0.mk (blk_grown (g := gb504) (o := .cells #[.int .i64 a1_0, .int .i64 a1_1, .int .i64 a1_2, .int .i64 a1_3] 52 (0, 0)) bk_now hg (Kd.R_away HO527.out (fun _ hk => hk.2))); have n2_ := Aside0.mk (Kd.R_after (ok := (fun k_ => k_ ≠ gb504)) (by (with_reducible repeat (first | apply Kd.R_alloc | apply Kd.R_drewN | apply Kd.R_drew)); exact Kd.R_mono (Kd.R_far (p := ⟨gb514, 1, none⟩) (Kd.R_far (p := ⟨gb514, 0, none⟩) (Kd.R_types HO510.out BK514.out (by decide)) (fun _ hk => hk.2) (.slice Ao67 t525.length co67)) (fun _ hk => hk.2) (.slice Ao69 t528.length co69)) (fun _ hk => ⟨hk.1.1, hk.1.2⟩)) hg hat); have n3_ := Aside0.mk (blk_grown (g := gb514) (o := .cells #[.slice Ao67 t525.length co67, .slice Ao69 t528.length co69] 25 (0, 0)) bk_now hg (Kd.R_ne HO527.out BK514.out (by decide))); have n4_ := Aside0.mk (Kd.R_over' (by (with_reducible repeat (first | apply Kd.R_alloc | apply Kd.R_drewN | apply Kd.R_drew)); exact (Kd.R_mono (Kd.R_far (p := ⟨gb514, 1, none⟩) (Kd.R_far (p := ⟨gb514, 0, none⟩) (Kd.R_types HO522.out BK514.out (by decide)) (fun _ hk => hk.2) (.slice Ao67 t525.length co67)) (fun _ hk => hk.2) (.slice Ao69 t528.length co69)) (fun _ h_ => h_.1))) (Kd.R_typed (by (with_reducible repeat (first | apply Kd.R_alloc | apply Kd.R_drewN | apply Kd.R_drew)); exact (Kd.R_mono (Kd.R_far (p := ⟨gb514, 1, none⟩) (Kd.R_far (p := ⟨gb514, 0, none⟩) (Kd.R_types HO527.out BK514.out (by decide)) (fun _ hk => hk.2) (.slice Ao67 t525.length co67)) (fun _ hk => hk.2) (.slice Ao69 t528.length co69)) (fun _ h_ => h_.1)))) (by decide) hg); have n5_ := Aside0.mk (Kd.R_over' (by (with_reducible repeat (first | apply Kd.R_alloc | apply Kd.R_drewN | apply Kd.R_drew)); exact (Kd.R_mono (Kd.R_far (p := ⟨gb514, 1, none⟩) (Kd.R_far (p := ⟨gb514, 0, none⟩) (Kd.R_types HO530.out BK514.out (by decide)) (fun _ hk => hk.2) (.slice Ao67 t525.length co67)) (fun _ hk => hk.2) (.slice Ao69 t528.length co69)) (fun _ h_ => h_.1))) (Kd.R_typed (by (with_reducible repeat (first | apply Kd.R_alloc | apply Kd.R_drewN | apply Kd.R_drew)); exact (Kd.R_mono (Kd.R_far (p := ⟨gb514, 1, none⟩) (Kd.R_far (p := ⟨gb514, 0, none⟩) (Kd.R_types HO527.out BK514.out (by decide)) (fun _ hk => hk.2) (.slice Ao67 t525.length co67)) (fun _ hk => hk.2) (.slice Ao69 t528.length co69)) (fun _ h_ => h_.1)))) (by decide) hg); have n6_ := Aside0.mk (hb); have n7_ := Aside0.mk (ho); clear BK503; clear BK504; clear HO510; clear BK514; clear HO522; clear HO530; clear HB; clear HO527; have BK503 := n0_; have BK504 := n1_; have HO510 := n2_; have BK514 := n3_; have HO522 := n4_; have HO530 := n5_; have HB := n6_; have HO533 := n7_; clear n0_ n1_ n2_ n3_ n4_ n5_ n6_ n7_; clear ho hb hg hat; obtain ⟨Ao72, co72, eo72⟩ := Kd.R_slice HO533.out; subst eo72; have hcz73 := blk_all2 BK514.out) | ((with_reducible refine gate_callee (f := 11) rfl ?_); refine sh_call (some 52) Tryd.func11 #[.agg #[.slice Ao72 y531.length co72, .slice Ao69 t528.length co69]] ?_; (with_reducible refine (shape_Check.calls _ _ y531 _ _ t528 t534 t535 _ ?side1 ?side2 ?side3 ?side4 ?side5 A44.out).mono ?_); (case side1 => refine (Kd.R_reads' (e := 52) (base := w.heap.size) (ok := fun k_ => (some k_ ≠ (.slice Ao51 t508.length co51 : Value).ownBlock ∧ k_ ≠ gb504)) (n := y531.length) (c := co72) ?_).2.2; exact (by (with_reducible repeat (first | apply Kd.R_alloc | apply Kd.R_drewN | apply Kd.R_drew)); exact (Kd.R_mono (Kd.R_far (p := ⟨gb514, 0, none⟩) (Kd.R_types HO533.out BK514.out (by decide)) (fun _ hk => hk.2) (.slice Ao72 y531.length co72)) (fun _ h_ => h_.1)))); (case side2 => exact (Kd.R_reads' HO533.out).2.1); (case side3 => refine (Kd.R_reads' (e := 40) (base := w.heap.size) (ok := fun k_ => (True ∧ some k_ ≠ (.slice Ao60 y520.length co60 : Value).ownBlock)) (n := t528.length) (c := co69) ?_).2.2; exact (by (with_reducible repeat (first | apply Kd.R_alloc | apply Kd.R_drewN | apply Kd.R_drew)); exact (Kd.R_mono (Kd.R_far (p := ⟨gb514, 0, none⟩) (Kd.R_types HO530.out BK514.out (by decide)) (fun _ hk => hk.2) (.slice Ao72 y531.length co72)) (fun _ h_ => h_.1)))); (case side4 => exact (Kd.R_reads' HO530.out).2.1); (case side5 => exact Kd.C_below HRG0.out b_now); rintro e w74 ⟨rfl, hb⟩; refine ⟨_, rfl, ?_⟩; replace HO510 := Aside0.mk (Kd.R_below (by (with_reducible repeat (first | apply Kd.R_alloc | apply Kd.R_drewN | apply Kd.R_drew)); exact (Kd.R_mono (Kd.R_far (p := ⟨gb514, 0, none⟩) (Kd.R_types HO510.out BK514.out (by decide)) (fun _ hk => hk.2) (.slice Ao72 y531.length co72)) (fun _ h_ => h_.1))) hb); replace HO522 := Aside0.mk (Kd.R_below (by (with_reducible repeat (first | apply Kd.R_alloc | apply Kd.R_drewN | apply Kd.R_drew)); exact (Kd.R_mono (Kd.R_far (p := ⟨gb514, 0, none⟩) (Kd.R_types HO522.out BK514.out (by decide)) (fun _ hk => hk.2) (.slice Ao72 y531.length co72)) (fun _ h_ => h_.1))) hb); replace HO530 := Aside0.mk (Kd.R_below (by (with_reducible repeat (first | apply Kd.R_alloc | apply Kd.R_drewN | apply Kd.R_drew)); exact (Kd.R_mono (Kd.R_far (p := ⟨gb514, 0, none⟩) (Kd.R_types HO530.out BK514.out (by decide)) (fun _ hk => hk.2) (.slice Ao72 y531.length co72)) (fun _ h_ => h_.1))) hb); replace HO533 := Aside0.mk (Kd.R_below (by (with_reducible repeat (first | apply Kd.R_alloc | apply Kd.R_drewN | apply Kd.R_drew)); exact (Kd.R_mono (Kd.R_far (p := ⟨gb514, 0, none⟩) (Kd.R_types HO533.out BK514.out (by decide)) (fun _ hk => hk.2) (.slice Ao72 y531.length co72)) (fun _ h_ => h_.1))) hb); replace BK503 := sh_kp (g := gb503) (t := 25) #[.slice A0_0 l0_0.length c0_0, .slice A0_1 l0_1.length c0_1] hb; replace BK504 := sh_kp (g := gb504) (t := 52) #[.int .i64 a1_0, .int .i64 a1_1, .int .i64 a1_2, .int .i64 a1_3] hb; replace BK514 := sh_kp (g := gb514) (t := 25) #[.slice Ao72 y531.length co72, .slice Ao69 t528.length co69] hb; replace HB := sh_b (w := w) hb; (try clear hb); (try clear hb2); (try clear hk); (try clear hi); have hcz75 := blk_all2 BK514.out))
          go_ret
          exact ⟨ret_now, b_now⟩
         ·rw [if_neg c46] at H
          have c46b0 : (t534 == 0) = false := beq_eq_false_iff_ne.mpr c46
          have c46b1 : (t534 != 0) = true := bne_iff_ne.mpr c46
          obtain rfl := Option.some.inj H
          exact absurd HRT.out (by simp)
        ·rw [if_neg c45] at H
         have c45b0 : decide (4 < (y531.length : Int)) = false := decide_eq_false c45
         have c45b1 : decide (4 < y531.length) = false := decide_eq_false (by omega)
         clear c45
         obtain ⟨y536, hy536⟩ : ∃ y_ : List (S52), y_ = (([(⟨a1_0, a1_1, a1_2, a1_3⟩ : S52)] : List (S52))) := ⟨_, rfl⟩
         replace H : ((stockadelaw04_exit.f).bind fun bt539 => ((stockadelaw04_right.f y536 (([(⟨bt539.1, bt539.2.1, bt539.2.2.1, bt539.2.2.2.1, bt539.2.2.2.2⟩ : S40)] : List (S40)))).bind fun t547 => (if (t547 == (t535 == 0)) = true then (if t547 = true then (some true) else (if t535 = 26 then (some (t534 == (l0_0.length : Int))) else (some false))) else (some false)))) = some r := by first | (rw [hy536]; with_reducible exact H) | (have H2_ := (Option.bind_some _ _).symm.trans H; rw [hy536]; with_reducible exact H2_) | (have H2_ := (Option.bind_some _ _).symm.trans H; with_reducible exact H2_) | with_reducible exact H | (rw [hy536]; exact H) | exact H
         have Ny536 := Aside0.mk hy536
         clear hy536
         replace H := Option.bind_eq_some_iff.mp H; obtain ⟨⟨t539, t540, t541, t542, t543⟩, A760, H⟩ := H; try dsimp only at H
         have A76 := Aside0.mk A760
         clear A760
         obtain ⟨y544, hy544⟩ : ∃ y_ : List (S40), y_ = (([(⟨t539, t540, t541, t542, t543⟩ : S40)] : List (S40))) := ⟨_, rfl⟩
         replace H : ((stockadelaw04_right.f y536 y544).bind fun t547 => (if (t547 == (t535 == 0)) = true then (if t547 = true then (some true) else (if t535 = 26 then (some (t534 == (l0_0.length : Int))) else (some false))) else (some false))) = some r := by first | (rw [hy544]; with_reducible exact H) | (have H2_ := (Option.bind_some _ _).symm.trans H; rw [hy544]; with_reducible exact H2_) | (have H2_ := (Option.bind_some _ _).symm.trans H; with_reducible exact H2_) | with_reducible exact H | (rw [hy544]; exact H) | exact H
         have Ny544 := Aside0.mk hy544
         clear hy544
         replace H := Option.bind_eq_some_iff.mp H; obtain ⟨t547, A770, H⟩ := H; try dsimp only at H
         have A77 := Aside0.mk A770
         clear A770
         by_cases c78 : (t547 == (t535 == 0)) = true
         ·rw [if_pos c78] at H
          have c78b0 : (t547 == (t535 == 0)) = true := c78
          (try (have c78b1 : decide (t547 = (t535 == 0)) = true := by simpa using c78))
          (try (have c78b2 : (t547 == (t535 == 0)) = true := by simpa using c78))
          clear c78
          by_cases c79 : t547 = true
          ·subst c79
           replace H := sh_t H
           obtain rfl := Option.some.inj H
           have hnb80 := NB503_504.out
           have hnc80 := NB504_503.out
           have hcz81 := blk_all2 BK503.out
           try go_wp2_with (first | ((with_reducible refine gate_callee (f := 10) rfl ?_); refine sh_call (some 18) Tryd.func10 #[.agg #[.slice A0_0 l0_0.length c0_0, .slice A0_1 l0_1.length c0_1]] ?_; (with_reducible refine (stockadelaw04_twin.calls _ _ l0_0 _ _ l0_1 t508 t511 _ ?side1 ?side2 ?side3 ?side4 A17.out).mono ?_); (case side1 => repeat (first | exact (Kd.C_below HR0_0.out HB.out) | (with_reducible refine Kd.C_alloc ?_ _) | (with_reducible refine Kd.C_drewN ?_ _) | (with_reducible refine Kd.C_drew ?_))); (case side2 => exact HC0_0.out); (case side3 => repeat (first | exact (Kd.C_below HR0_1.out HB.out) | (with_reducible refine Kd.C_alloc ?_ _) | (with_reducible refine Kd.C_drewN ?_ _) | (with_reducible refine Kd.C_drew ?_))); (case side4 => exact HC0_1.out); rintro e w82 ⟨v509, v512, rfl, ho0, ho1, hb⟩; refine ⟨_, rfl, ?_⟩; have HO510 := Aside0.mk (Kd.R_lower (Kd.R_newB ho0 (g := gb504) (o := .cells #[.int .i64 a1_0, .int .i64 a1_1, .int .i64 a1_2, .int .i64 a1_3] 52 (0, 0)) bk_now) (below_size b_now)); have HO513 := Aside0.mk (Kd.R_lower ho1 (below_size b_now)); replace BK503 := sh_k BK503 hb; replace BK504 := sh_k BK504 hb; replace HB := sh_b (w := w) hb; (try clear hb); (try clear hb2); (try clear hk); (try clear hi); (try clear ho0); (try clear ho1)) | ((with_reducible refine gate_dst (N := 5) rfl ?_); (try (refine gate_guard (by rfl) ?_; dsimp only)); refine sh_box 5 #[.slice none 0 0, .slice none 0 0] 25 ?_; intro gb514 hg w83 hbox hb; have GE514 := sh_z (w := w) hg; have NB503_514 := sh_n BK503 hg; have NB504_514 := sh_n BK504 hg; have NB514_503 := sh_s NB503_514; have NB514_504 := sh_s NB504_514; replace HO510 := Aside0.mk (Kd.R_below (by (with_reducible repeat (first | apply Kd.R_alloc | apply Kd.R_drewN | apply Kd.R_drew)); exact HO510.out) hb); replace HO513 := Aside0.mk (Kd.R_below (by (with_reducible repeat (first | apply Kd.R_alloc | apply Kd.R_drewN | apply Kd.R_drew)); exact HO513.out) hb); replace BK503 := sh_k BK503 hb; replace BK504 := sh_k BK504 hb; replace HB := sh_b (w := w) hb; have BK514 := Aside0.mk (hbox); clear hb hbox hg; obtain ⟨Ao84, co84, eo84⟩ := Kd.R_slice HO510.out; subst eo84; have hnb85 := NB514_503.out; have hnc85 := NB503_514.out; have hnb86 := NB514_504.out; have hnc86 := NB504_514.out; have hcz87 := blk_all2 BK514.out; obtain ⟨Ao88, co88, eo88⟩ := Kd.R_slice HO513.out; subst eo88))
           have n0_ : Aside0 (Kd.R k52 52 ((w83.setCell ⟨gb514, 0, none⟩ (.slice Ao84 t508.length co84)).setCell ⟨gb514, 1, none⟩ (.slice Ao88 t511.length co88)) w.heap.size (fun k_ => k_ ≠ gb504) (.slice Ao84 t508.length co84) t508) := ⟨by (with_reducible repeat (first | apply Kd.R_alloc | apply Kd.R_drewN | apply Kd.R_drew)); exact Kd.R_mono (Kd.R_far (p := ⟨gb514, 1, none⟩) (Kd.R_far (p := ⟨gb514, 0, none⟩) (Kd.R_types HO510.out BK514.out (by decide)) (fun _ hk => hk.2) (.slice Ao84 t508.length co84)) (fun _ hk => hk.2) (.slice Ao88 t511.length co88)) (fun _ hk => hk.1.2)⟩
           have n1_ : Aside0 (Kd.R k40 40 ((w83.setCell ⟨gb514, 0, none⟩ (.slice Ao84 t508.length co84)).setCell ⟨gb514, 1, none⟩ (.slice Ao88 t511.length co88)) w.heap.size (fun _ => True) (.slice Ao88 t511.length co88) t511) := ⟨by (with_reducible repeat (first | apply Kd.R_alloc | apply Kd.R_drewN | apply Kd.R_drew)); exact Kd.R_mono (Kd.R_far (p := ⟨gb514, 1, none⟩) (Kd.R_far (p := ⟨gb514, 0, none⟩) (Kd.R_types HO513.out BK514.out (by decide)) (fun _ hk => hk.2) (.slice Ao84 t508.length co84)) (fun _ hk => hk.2) (.slice Ao88 t511.length co88)) (fun _ hk => trivial)⟩
           have n2_ : Aside0 (((w83.setCell ⟨gb514, 0, none⟩ (.slice Ao84 t508.length co84)).setCell ⟨gb514, 1, none⟩ (.slice Ao88 t511.length co88)).heap[gb503]? = some (.cells #[.slice A0_0 l0_0.length c0_0, .slice A0_1 l0_1.length c0_1] 25 (0, 0))) := ⟨bk_now⟩
           have n3_ : Aside0 (((w83.setCell ⟨gb514, 0, none⟩ (.slice Ao84 t508.length co84)).setCell ⟨gb514, 1, none⟩ (.slice Ao88 t511.length co88)).heap[gb504]? = some (.cells #[.int .i64 a1_0, .int .i64 a1_1, .int .i64 a1_2, .int .i64 a1_3] 52 (0, 0))) := ⟨bk_now⟩
           have n4_ : Aside0 (((w83.setCell ⟨gb514, 0, none⟩ (.slice Ao84 t508.length co84)).setCell ⟨gb514, 1, none⟩ (.slice Ao88 t511.length co88)).heap[gb514]? = some (.cells #[.slice Ao84 t508.length co84, .slice Ao88 t511.length co88] 25 (0, 0))) := ⟨bk_now⟩
           have n5_ : Aside0 (Below w.heap.size w ((w83.setCell ⟨gb514, 0, none⟩ (.slice Ao84 t508.length co84)).setCell ⟨gb514, 1, none⟩ (.slice Ao88 t511.length co88))) := ⟨b_now⟩
           (try clear HO510)
           (try clear HO513)
           (try clear BK503)
           (try clear BK504)
           (try clear BK514)
           (try clear HB)
           generalize ((w83.setCell ⟨gb514, 0, none⟩ (.slice Ao84 t508.length co84)).setCell ⟨gb514, 1, none⟩ (.slice Ao88 t511.length co88)) = w89 at n0_ n1_ n2_ n3_ n4_ n5_ ⊢
           have HO510 := n0_
           have HO513 := n1_
           have BK503 := n2_
           have BK504 := n3_
           have BK514 := n4_
           have HB := n5_
           clear n0_ n1_ n2_ n3_ n4_ n5_
           have n0_ := Aside0.mk (Kd.R_drew HO510.out)
           have n1_ := Aside0.mk (Kd.R_drew HO513.out)
           have n2_ := Aside0.mk (blk_drew BK503.out)
           have n3_ := Aside0.mk (blk_drew BK504.out)
           have n4_ := Aside0.mk (blk_drew BK514.out)
           have n5_ := Aside0.mk (below_drew1 HB.out)
           clear HO510
           clear HO513
           clear BK503
           clear BK504
           clear BK514
           clear HB
           have HO510 := n0_
           have HO513 := n1_
           have BK503 := n2_
           have BK504 := n3_
           have BK514 := n4_
           have HB := n5_
           clear n0_ n1_ n2_ n3_ n4_ n5_
           refine start_ (n := 7) (S := fun w' => w'.cell? ⟨gb514, 0, none⟩ = some (.slice Ao84 t508.length co84) ∧ w'.cell? ⟨gb514, 1, none⟩ = some (.slice Ao88 t511.length co88)) (ds := [6]) #[false, false, false, false, false, false, false] (by kernel_rfl) rfl rfl ⟨(blk_cell BK514.out 0).trans rfl, (blk_cell BK514.out 1).trans rfl⟩ (fun hHeld => ?_)
           generalize w89.drew = w90 at HO510 HO513 BK503 BK504 BK514 HB hHeld ⊢
           refine pure_ (i := 0) (N := some 19) (v := ?_) (a' := ?_) #[true, false, false, false, false, false, false] rfl rfl (by kernel_rfl) (fun _ _ _ h => h) (Or.inl ⟨by rfl, ?_⟩) ?_ ?_
           rotate_left
           ·intro w'
            go_simp
            with_reducible rfl
           rotate_left
           ·simp only [Act.put, List.setIfInBounds_toArray, List.set_cons_zero, List.set_cons_succ, i64_w, i32_w]
            rfl
           refine take_ (i := 1) (N := some 20) (v := ?_) (a' := ?_) #[true, true, false, false, false, false, false] rfl rfl (by kernel_rfl) (fun _ _ _ h => h) (Or.inl ⟨by rfl, ?_⟩) hHeld ?_ ?_
           rotate_left
           ·rintro w' ⟨s0, s1⟩
            go_simp
            with_reducible rfl
           rotate_left
           ·simp only [Act.put, List.setIfInBounds_toArray, List.set_cons_zero, List.set_cons_succ, i64_w, i32_w]
            rfl
           refine one_ (i := 2) (N := some 21) #[true, true, true, false, false, false, false] rfl rfl (by kernel_rfl) (by decide) (fun K hK => ?_)
           refine goes_ Tryd.func24 (by kernel_rfl) rfl #[] (by rfl) rfl rfl (by (try simp only [List.map_toArray, List.map_cons, List.map_nil]); first | done | rfl | (simp only [List.length_drop, List.length_take]; rfl)) ?_
           with_reducible refine (stockadelaw04_exit.calls  t515 t516 t517 t518 t519 _ A18.out).mono ?_
           rintro e w91 ⟨rfl, hb⟩
           refine ⟨_, rfl, ?_⟩
           have n0_ := Aside0.mk (Kd.R_below (by (with_reducible repeat (first | apply Kd.R_alloc | apply Kd.R_drewN | apply Kd.R_drew)); exact HO510.out) hb)
           have n1_ := Aside0.mk (Kd.R_below (by (with_reducible repeat (first | apply Kd.R_alloc | apply Kd.R_drewN | apply Kd.R_drew)); exact HO513.out) hb)
           have n2_ := Aside0.mk (blk_below (g := gb503) (o := .cells #[.slice A0_0 l0_0.length c0_0, .slice A0_1 l0_1.length c0_1] 25 (0, 0)) bk_now hb)
           have n3_ := Aside0.mk (blk_below (g := gb504) (o := .cells #[.int .i64 a1_0, .int .i64 a1_1, .int .i64 a1_2, .int .i64 a1_3] 52 (0, 0)) bk_now hb)
           have n4_ := Aside0.mk (blk_below (g := gb514) (o := .cells #[.slice Ao84 t508.length co84, .slice Ao88 t511.length co88] 25 (0, 0)) bk_now hb)
           have n5_ := Aside0.mk (below_step b_now hb)
           clear HO510
           clear HO513
           clear BK503
           clear BK504
           clear BK514
           clear HB
           have HO510 := n0_
           have HO513 := n1_
           have BK503 := n2_
           have BK504 := n3_
           have BK514 := n4_
           have HB := n5_
           clear n0_ n1_ n2_ n3_ n4_ n5_
           (try clear hb)
           (try clear hb2)
           (try clear hk)
           (try clear hi)
           refine hK.out _ _ ⟨(blk_cell BK514.out 0).trans rfl, (blk_cell BK514.out 1).trans rfl⟩ (fun hHeld => ?_)
           clear hK K
           refine norm_ (a' := ?_) ?_ ?_
           rotate_left
           ·show Act.put _ (some 21) _ = _
            simp only [Act.put, List.setIfInBounds_toArray, List.set_cons_zero, List.set_cons_succ, i64_w, i32_w]
            rfl
           refine one_ (i := 3) (N := some 22) #[true, true, true, true, false, false, false] rfl rfl (by kernel_rfl) (by decide) (fun K hK => ?_)
           refine value_ (w1 := ?_) (v := ?_) (by rfl) rfl ?_ ?_
           rotate_left 2
           ·go_simp
            constructor
            ·rfl
            ·rfl
           refine hK.out _ _ ⟨(blk_cell (blk_alloc BK514.out _) 0).trans rfl, (blk_cell (blk_alloc BK514.out _) 1).trans rfl⟩ (fun hHeld => ?_)
           clear hK K
           refine norm_ (a' := ?_) ?_ ?_
           rotate_left
           ·show Act.put _ (some 22) _ = _
            simp only [Act.put, List.setIfInBounds_toArray, List.set_cons_zero, List.set_cons_succ, i64_w, i32_w]
            rfl
           refine one_ (i := 4) (N := some 23) #[true, true, true, true, true, false, false] rfl rfl (by kernel_rfl) (by decide) (fun K hK => ?_)
           refine Kd.R_append_step k40 (w0 := w) w.heap.size (by rfl) (.tmp 20) (.tmp 22) 23 40 (.agg #[(.int .u8 0), (.int .u8 0), (.int .u8 0), (.int .i16 0), (.int .i32 0)]) 12 rfl Tryd.underlying23 info40 rfl (by decide) (by omega) (.slice Ao88 t511.length co88) t511 (⟨t515, t516, t517, t518, t519⟩ : S40) [.int .u8 t515, .int .u8 t516, .int .u8 t517, .int .i16 t518, .int .i32 t519] (fun _ => True) (fun _ => False) rfl rfl ?aP (fun _ hk => hk.elim) ?aF ?aO ?aB ?aS ?aL ?_
           (case aP => exact k40_mkM _ _ _ (⟨t515, t516, t517, t518, t519⟩ : S40))
           (case aB => exact b_now)
           (case aF => exact (fun _ _ => trivial))
           (case aO => exact (by (with_reducible repeat (first | apply Kd.R_alloc | apply Kd.R_drewN | apply Kd.R_drew)); exact HO513.out))
           (case aS => exact (below_size b_now))
           (case aL => have := LMc19.out; omega)
           intro v521 w92 ho hb hg hat
           rw [← Ny520.out] at ho
           have n0_ := Aside0.mk (blk_grown (g := gb503) (o := .cells #[.slice A0_0 l0_0.length c0_0, .slice A0_1 l0_1.length c0_1] 25 (0, 0)) bk_now hg (Kd.R_ne HO513.out BK503.out (by decide)))
           have n1_ := Aside0.mk (blk_grown (g := gb504) (o := .cells #[.int .i64 a1_0, .int .i64 a1_1, .int .i64 a1_2, .int .i64 a1_3] 52 (0, 0)) bk_now hg (Kd.R_ne HO513.out BK504.out (by decide)))
           have n2_ := Aside0.mk (Kd.R_over' (by (with_reducible repeat (first | apply Kd.R_alloc | apply Kd.R_drewN | apply Kd.R_drew)); exact HO510.out) (Kd.R_typed (by (with_reducible repeat (first | apply Kd.R_alloc | apply Kd.R_drewN | apply Kd.R_drew)); exact HO513.out)) (by decide) hg)
           have n3_ := Aside0.mk (blk_grown (g := gb514) (o := .cells #[.slice Ao84 t508.length co84, .slice Ao88 t511.length co88] 25 (0, 0)) bk_now hg (Kd.R_ne HO513.out BK514.out (by decide)))
           have n4_ := Aside0.mk (hb)
           have n5_ := Aside0.mk (ho)
           clear BK503
           clear BK504
           clear HO510
           clear BK514
           clear HB
           clear HO513
           have BK503 := n0_
           have BK504 := n1_
           have HO510 := n2_
           have BK514 := n3_
           have HB := n4_
           have HO522 := n5_
           clear n0_ n1_ n2_ n3_ n4_ n5_
           clear ho hb hg hat
           obtain ⟨Ao93, co93, eo93⟩ := Kd.R_slice HO522.out
           (first | subst eo93 | (injection eo93 with f1_ f2_ f3_; have f4_ := f1_.symm; have f5_ := f3_.symm; clear f1_ f2_ f3_; subst f4_; subst f5_))
           refine hK.out _ _ ⟨(blk_cell BK514.out 0).trans rfl, (blk_cell BK514.out 1).trans rfl⟩ (fun hHeld => ?_)
           clear hK K
           refine norm_ (a' := ?_) ?_ ?_
           rotate_left
           ·show Act.put _ (some 23) _ = _
            simp only [Act.put, List.setIfInBounds_toArray, List.set_cons_zero, List.set_cons_succ, i64_w, i32_w]
            rfl
           refine pure_ (i := 5) (N := some 24) (v := ?_) (a' := ?_) #[true, true, true, true, true, true, false] rfl rfl (by kernel_rfl) (fun _ _ _ h => h) (Or.inl ⟨by rfl, ?_⟩) ?_ ?_
           rotate_left
           ·intro w'
            go_simp
            with_reducible rfl
           rotate_left
           ·simp only [Act.put, List.setIfInBounds_toArray, List.set_cons_zero, List.set_cons_succ, i64_w, i32_w]
            rfl
           refine last_ (i := 6) (N := none) #[true, true, true, true, true, true, true] rfl rfl (by kernel_rfl) (by decide) (fun K hK => ?_)
           have hs94 : w92.cell? ⟨gb514, 1, none⟩ = some (.slice Ao88 t511.length co88) := (blk_cell BK514.out 1).trans rfl
           have hfs94 := blk_frozen BK514.out 1
           have hns94_0 := NB503_514.out
           have hns94_1 := NB504_514.out
           have hms94_0 := NB514_503.out
           have hms94_1 := NB514_504.out
           refine skip_ (w1 := ?_) (by rfl) rfl ?_ ?_
           rotate_left
           ·go_simp
            rfl
           refine hK.out _ _ ?_
           clear hK K
           refine done_ (by kernel_rfl) ?_
           have hcz95 := blk_all2 BK514.out
           try go_wp2_with (first | ((with_reducible refine gate_callee (f := 11) rfl ?_); refine sh_call (some 27) Tryd.func11 #[.agg #[.slice Ao84 t508.length co84, .slice Ao93 y520.length co93]] ?_; (with_reducible refine (shape_Check.calls _ _ t508 _ _ y520 t523 t524 _ ?side1 ?side2 ?side3 ?side4 ?side5 A20.out).mono ?_); (case side1 => refine (Kd.R_reads' (e := 52) (base := w.heap.size) (ok := fun k_ => k_ ≠ gb504) (n := t508.length) (c := co84) ?_).2.2; exact (by (with_reducible repeat (first | apply Kd.R_alloc | apply Kd.R_drewN | apply Kd.R_drew)); exact (Kd.R_mono (Kd.R_far (p := ⟨gb514, 1, none⟩) (Kd.R_types HO510.out BK514.out (by decide)) (fun _ hk => hk.2) (.slice Ao93 y520.length co93)) (fun _ h_ => h_.1)))); (case side2 => exact (Kd.R_reads' HO510.out).2.1); (case side3 => refine (Kd.R_reads' (e := 40) (base := w.heap.size) (ok := fun k_ => True) (n := y520.length) (c := co93) ?_).2.2; exact (by (with_reducible repeat (first | apply Kd.R_alloc | apply Kd.R_drewN | apply Kd.R_drew)); exact (Kd.R_mono (Kd.R_far (p := ⟨gb514, 1, none⟩) (Kd.R_types HO522.out BK514.out (by decide)) (fun _ hk => hk.2) (.slice Ao93 y520.length co93)) (fun _ h_ => h_.1)))); (case side4 => exact (Kd.R_reads' HO522.out).2.1); (case side5 => exact Kd.C_below HRG0.out b_now); rintro e w96 ⟨rfl, hb⟩; refine ⟨_, rfl, ?_⟩; replace HO510 := Aside0.mk (Kd.R_below (by (with_reducible repeat (first | apply Kd.R_alloc | apply Kd.R_drewN | apply Kd.R_drew)); exact (Kd.R_mono (Kd.R_far (p := ⟨gb514, 1, none⟩) (Kd.R_types HO510.out BK514.out (by decide)) (fun _ hk => hk.2) (.slice Ao93 y520.length co93)) (fun _ h_ => h_.1))) hb); replace HO522 := Aside0.mk (Kd.R_below (by (with_reducible repeat (first | apply Kd.R_alloc | apply Kd.R_drewN | apply Kd.R_drew)); exact (Kd.R_mono (Kd.R_far (p := ⟨gb514, 1, none⟩) (Kd.R_types HO522.out BK514.out (by decide)) (fun _ hk => hk.2) (.slice Ao93 y520.length co93)) (fun _ h_ => h_.1))) hb); replace BK503 := sh_kp (g := gb503) (t := 25) #[.slice A0_0 l0_0.length c0_0, .slice A0_1 l0_1.length c0_1] hb; replace BK504 := sh_kp (g := gb504) (t := 52) #[.int .i64 a1_0, .int .i64 a1_1, .int .i64 a1_2, .int .i64 a1_3] hb; replace BK514 := sh_kp (g := gb514) (t := 25) #[.slice Ao84 t508.length co84, .slice Ao93 y520.length co93] hb; replace HB := sh_b (w := w) hb; (try clear hb); (try clear hb2); (try clear hk); (try clear hi); have hcz97 := blk_all2 BK514.out; have hcz98 := blk_all2 BK503.out) | ((with_reducible refine gate_callee (f := 10) rfl ?_); refine sh_call (some 43) Tryd.func10 #[.agg #[.slice A0_0 l0_0.length c0_0, .slice A0_1 l0_1.length c0_1]] ?_; (with_reducible refine (stockadelaw04_twin.calls _ _ l0_0 _ _ l0_1 t525 t528 _ ?side1 ?side2 ?side3 ?side4 A42.out).mono ?_); (case side1 => repeat (first | exact (Kd.C_below HR0_0.out HB.out) | (with_reducible refine Kd.C_alloc ?_ _) | (with_reducible refine Kd.C_drewN ?_ _) | (with_reducible refine Kd.C_drew ?_))); (case side2 => exact HC0_0.out); (case side3 => repeat (first | exact (Kd.C_below HR0_1.out HB.out) | (with_reducible refine Kd.C_alloc ?_ _) | (with_reducible refine Kd.C_drewN ?_ _) | (with_reducible refine Kd.C_drew ?_))); (case side4 => exact HC0_1.out); rintro e w99 ⟨v526, v529, rfl, ho0, ho1, hb⟩; refine ⟨_, rfl, ?_⟩; have HO527 := Aside0.mk (Kd.R_lower (Kd.R_newB (Kd.R_new' ho0 (Kd.R_lt (by (with_reducible repeat (first | apply Kd.R_alloc | apply Kd.R_drewN | apply Kd.R_drew)); exact HO510.out))) (g := gb504) (o := .cells #[.int .i64 a1_0, .int .i64 a1_1, .int .i64 a1_2, .int .i64 a1_3] 52 (0, 0)) bk_now) (below_size b_now)); have HO530 := Aside0.mk (Kd.R_lower (Kd.R_new' ho1 (Kd.R_lt (by (with_reducible repeat (first | apply Kd.R_alloc | apply Kd.R_drewN | apply Kd.R_drew)); exact HO522.out))) (below_size b_now)); replace HO510 := Aside0.mk (Kd.R_elder' (by (with_reducible repeat (first | apply Kd.R_alloc | apply Kd.R_drewN | apply Kd.R_drew)); exact HO510.out) (Kd.R_base ho0) hb); replace HO522 := Aside0.mk (Kd.R_elder' (by (with_reducible repeat (first | apply Kd.R_alloc | apply Kd.R_drewN | apply Kd.R_drew)); exact HO522.out) (Kd.R_base ho1) hb); replace BK503 := sh_k BK503 hb; replace BK504 := sh_k BK504 hb; replace BK514 := sh_k BK514 hb; replace HB := sh_b (w := w) hb; (try clear hb); (try clear hb2); (try clear hk); (try clear hi); (try clear ho0); (try clear ho1); obtain ⟨Ao100, co100, eo100⟩ := Kd.R_slice HO527.out; subst eo100; have hcz101 := blk_all2 BK514.out; obtain ⟨Ao102, co102, eo102⟩ := Kd.R_slice HO530.out; subst eo102; have hcz103 := blk_all4 BK504.out) | ((with_reducible refine gate_builtin (b := .append) (xs := #[.tmp 45, .tmp 47]) rfl ?_); (try (refine gate_guard (by rfl) ?_; dsimp only)); at_builtin; refine Kd.R_append k52 (w0 := w) w.heap.size rfl (.tmp 45) (.tmp 47) 22 52 (.agg #[(.int .i64 0), (.int .i64 0), (.int .i64 0), (.int .i64 0)]) 32 rfl Tryd.underlying22 info52 rfl (by decide) (by omega) (.slice Ao100 t525.length co100) t525 (⟨a1_0, a1_1, a1_2, a1_3⟩ : S52) [.int .i64 a1_0, .int .i64 a1_1, .int .i64 a1_2, .int .i64 a1_3] (fun k_ => some k_ ≠ (.slice Ao84 t508.length co84 : Value).ownBlock ∧ k_ ≠ gb504) (fun _ => False) rfl (by first | (go_simp; done) | (go_simp; rfl)) ?aP (fun _ hk => hk.elim) ?aF ?aO ?aB ?aS ?aL ?_; (case aP => exact k52_mkM _ _ _ (⟨a1_0, a1_1, a1_2, a1_3⟩ : S52)); (case aB => exact b_now); (case aF => exact (fun k_ hk => ⟨Kd.fresh' (Kd.R_lt (by (with_reducible repeat (first | apply Kd.R_alloc | apply Kd.R_drewN | apply Kd.R_drew)); exact (Kd.R_mono (Kd.R_far (p := ⟨gb514, 1, none⟩) (Kd.R_far (p := ⟨gb514, 0, none⟩) (Kd.R_types HO510.out BK514.out (by decide)) (fun _ hk => hk.2) (.slice Ao100 t525.length co100)) (fun _ hk => hk.2) (.slice Ao102 t528.length co102)) (fun _ h_ => h_.1)))) k_ hk, Kd.freshB (g := gb504) (o := .cells #[.int .i64 a1_0, .int .i64 a1_1, .int .i64 a1_2, .int .i64 a1_3] 52 (0, 0)) bk_now k_ hk⟩)); (case aO => exact (by (with_reducible repeat (first | apply Kd.R_alloc | apply Kd.R_drewN | apply Kd.R_drew)); exact Kd.R_mono (Kd.R_far (p := ⟨gb514, 1, none⟩) (Kd.R_far (p := ⟨gb514, 0, none⟩) (Kd.R_types HO527.out BK514.out (by decide)) (fun _ hk => hk.2) (.slice Ao100 t525.length co100)) (fun _ hk => hk.2) (.slice Ao102 t528.length co102)) (fun _ hk => ⟨hk.1.1.2, hk.1.2⟩))); (case aS => exact (below_size b_now)); (case aL => have := LMc43.out; omega); intro v532 w104 ho hb hg hat; rw [← Ny531.out] at ho; have n0_ := Aside0.mk (blk_grown (g := gb503) (o := .cells #[.slice A0_0 l0_0.length c0_0, .slice A0_1 l0_1.length c0_1] 25 (0, 0)) bk_now hg (Kd.R_ne HO527.out BK503.out (by decide))); have n1_ := Aside0.mk (blk_grown (g := gb504) (o := .cells #[.int .i64 a1_0, .int .i64 a1_1, .int .i64 a1_2, .int .i64 a1_3] 52 (0, 0)) bk_now hg (Kd.R_away HO527.out (fun _ hk => hk.2))); have n2_ := Aside0.mk (Kd.R_after (ok := (fun k_ => k_ ≠ gb504)) (by (with_reducible repeat (first | apply Kd.R_alloc | apply Kd.R_drewN | apply Kd.R_drew)); exact Kd.R_mono (Kd.R_far (p := ⟨gb514, 1, none⟩) (Kd.R_far (p := ⟨gb514, 0, none⟩) (Kd.R_types HO510.out BK514.out (by decide)) (fun _ hk => hk.2) (.slice Ao100 t525.length co100)) (fun _ hk => hk.2) (.slice Ao102 t528.length co102)) (fun _ hk => ⟨hk.1.1, hk.1.2⟩)) hg hat); have n3_ := Aside0.mk (blk_grown (g := gb514) (o := .cells #[.slice Ao100 t525.length co100, .slice Ao102 t528.length co102] 25 (0, 0)) bk_now hg (Kd.R_ne HO527.out BK514.out (by decide))); have n4_ := Aside0.mk (Kd.R_over' (by (with_reducible repeat (first | apply Kd.R_alloc | apply Kd.R_drewN | apply Kd.R_drew)); exact (Kd.R_mono (Kd.R_far (p := ⟨gb514, 1, none⟩) (Kd.R_far (p := ⟨gb514, 0, none⟩) (Kd.R_types HO522.out BK514.out (by decide)) (fun _ hk => hk.2) (.slice Ao100 t525.length co100)) (fun _ hk => hk.2) (.slice Ao102 t528.length co102)) (fun _ h_ => h_.1))) (Kd.R_typed (by (with_reducible repeat (first | apply Kd.R_alloc | apply Kd.R_drewN | apply Kd.R_drew)); exact (Kd.R_mono (Kd.R_far (p := ⟨gb514, 1, none⟩) (Kd.R_far (p := ⟨gb514, 0, none⟩) (Kd.R_types HO527.out BK514.out (by decide)) (fun _ hk => hk.2) (.slice Ao100 t525.length co100)) (fun _ hk => hk.2) (.slice Ao102 t528.length co102)) (fun _ h_ => h_.1)))) (by decide) hg); have n5_ := Aside0.mk (Kd.R_over' (by (with_reducible repeat (first | apply Kd.R_alloc | apply Kd.R_drewN | apply Kd.R_drew)); exact (Kd.R_mono (Kd.R_far (p := ⟨gb514, 1, none⟩) (Kd.R_far (p := ⟨gb514, 0, none⟩) (Kd.R_types HO530.out BK514.out (by decide)) (fun _ hk => hk.2) (.slice Ao100 t525.length co100)) (fun _ hk => hk.2) (.slice Ao102 t528.length co102)) (fun _ h_ => h_.1))) (Kd.R_typed (by (with_reducible repeat (first | apply Kd.R_alloc | apply Kd.R_drewN | apply Kd.R_drew)); exact (Kd.R_mono (Kd.R_far (p := ⟨gb514, 1, none⟩) (Kd.R_far (p := ⟨gb514, 0, none⟩) (Kd.R_types HO527.out BK514.out (by decide)) (fun _ hk => hk.2) (.slice Ao100 t525.length co100)) (fun _ hk => hk.2) (.slice Ao102 t528.length co102)) (fun _ h_ => h_.1)))) (by decide) hg); have n6_ := Aside0.mk (hb); have n7_ := Aside0.mk (ho); clear BK503; clear BK504; clear HO510; clear BK514; clear HO522; clear HO530; clear HB; clear HO527; have BK503 := n0_; have BK504 := n1_; have HO510 := n2_; have BK514 := n3_; have HO522 := n4_; have HO530 := n5_; have HB := n6_; have HO533 := n7_; clear n0_ n1_ n2_ n3_ n4_ n5_ n6_ n7_; clear ho hb hg hat; obtain ⟨Ao105, co105, eo105⟩ := Kd.R_slice HO533.out; subst eo105; have hcz106 := blk_all2 BK514.out) | ((with_reducible refine gate_callee (f := 11) rfl ?_); refine sh_call (some 52) Tryd.func11 #[.agg #[.slice Ao105 y531.length co105, .slice Ao102 t528.length co102]] ?_; (with_reducible refine (shape_Check.calls _ _ y531 _ _ t528 t534 t535 _ ?side1 ?side2 ?side3 ?side4 ?side5 A44.out).mono ?_); (case side1 => refine (Kd.R_reads' (e := 52) (base := w.heap.size) (ok := fun k_ => (some k_ ≠ (.slice Ao84 t508.length co84 : Value).ownBlock ∧ k_ ≠ gb504)) (n := y531.length) (c := co105) ?_).2.2; exact (by (with_reducible repeat (first | apply Kd.R_alloc | apply Kd.R_drewN | apply Kd.R_drew)); exact (Kd.R_mono (Kd.R_far (p := ⟨gb514, 0, none⟩) (Kd.R_types HO533.out BK514.out (by decide)) (fun _ hk => hk.2) (.slice Ao105 y531.length co105)) (fun _ h_ => h_.1)))); (case side2 => exact (Kd.R_reads' HO533.out).2.1); (case side3 => refine (Kd.R_reads' (e := 40) (base := w.heap.size) (ok := fun k_ => (True ∧ some k_ ≠ (.slice Ao93 y520.length co93 : Value).ownBlock)) (n := t528.length) (c := co102) ?_).2.2; exact (by (with_reducible repeat (first | apply Kd.R_alloc | apply Kd.R_drewN | apply Kd.R_drew)); exact (Kd.R_mono (Kd.R_far (p := ⟨gb514, 0, none⟩) (Kd.R_types HO530.out BK514.out (by decide)) (fun _ hk => hk.2) (.slice Ao105 y531.length co105)) (fun _ h_ => h_.1)))); (case side4 => exact (Kd.R_reads' HO530.out).2.1); (case side5 => exact Kd.C_below HRG0.out b_now); rintro e w107 ⟨rfl, hb⟩; refine ⟨_, rfl, ?_⟩; replace HO510 := Aside0.mk (Kd.R_below (by (with_reducible repeat (first | apply Kd.R_alloc | apply Kd.R_drewN | apply Kd.R_drew)); exact (Kd.R_mono (Kd.R_far (p := ⟨gb514, 0, none⟩) (Kd.R_types HO510.out BK514.out (by decide)) (fun _ hk => hk.2) (.slice Ao105 y531.length co105)) (fun _ h_ => h_.1))) hb); replace HO522 := Aside0.mk (Kd.R_below (by (with_reducible repeat (first | apply Kd.R_alloc | apply Kd.R_drewN | apply Kd.R_drew)); exact (Kd.R_mono (Kd.R_far (p := ⟨gb514, 0, none⟩) (Kd.R_types HO522.out BK514.out (by decide)) (fun _ hk => hk.2) (.slice Ao105 y531.length co105)) (fun _ h_ => h_.1))) hb); replace HO530 := Aside0.mk (Kd.R_below (by (with_reducible repeat (first | apply Kd.R_alloc | apply Kd.R_drewN | apply Kd.R_drew)); exact (Kd.R_mono (Kd.R_far (p := ⟨gb514, 0, none⟩) (Kd.R_types HO530.out BK514.out (by decide)) (fun _ hk => hk.2) (.slice Ao105 y531.length co105)) (fun _ h_ => h_.1))) hb); replace HO533 := Aside0.mk (Kd.R_below (by (with_reducible repeat (first | apply Kd.R_alloc | apply Kd.R_drewN | apply Kd.R_drew)); exact (Kd.R_mono (Kd.R_far (p := ⟨gb514, 0, none⟩) (Kd.R_types HO533.out BK514.out (by decide)) (fun _ hk => hk.2) (.slice Ao105 y531.length co105)) (fun _ h_ => h_.1))) hb); replace BK503 := sh_kp (g := gb503) (t := 25) #[.slice A0_0 l0_0.length c0_0, .slice A0_1 l0_1.length c0_1] hb; replace BK504 := sh_kp (g := gb504) (t := 52) #[.int .i64 a1_0, .int .i64 a1_1, .int .i64 a1_2, .int .i64 a1_3] hb; replace BK514 := sh_kp (g := gb514) (t := 25) #[.slice Ao105 y531.length co105, .slice Ao102 t528.length co102] hb; replace HB := sh_b (w := w) hb; (try clear hb); (try clear hb2); (try clear hk); (try clear hi); have hcz108 := blk_all2 BK514.out))
           have n0_ := Aside0.mk (Kd.R_drew HO510.out)
           have n1_ := Aside0.mk (Kd.R_drew HO522.out)
           have n2_ := Aside0.mk (Kd.R_drew HO530.out)
           have n3_ := Aside0.mk (Kd.R_drew HO533.out)
           have n4_ := Aside0.mk (blk_drew BK503.out)
           have n5_ := Aside0.mk (blk_drew BK504.out)
           have n6_ := Aside0.mk (blk_drew BK514.out)
           have n7_ := Aside0.mk (below_drew1 HB.out)
           clear HO510
           clear HO522
           clear HO530
           clear HO533
           clear BK503
           clear BK504
           clear BK514
           clear HB
           have HO510 := n0_
           have HO522 := n1_
           have HO530 := n2_
           have HO533 := n3_
           have BK503 := n4_
           have BK504 := n5_
           have BK514 := n6_
           have HB := n7_
           clear n0_ n1_ n2_ n3_ n4_ n5_ n6_ n7_
           refine start_ (n := 7) (S := fun w' => True) (ds := []) #[false, false, false, false, false, false, false] (by kernel_rfl) rfl rfl trivial (fun hHeld => ?_); refine with_tabW stockadelaw04_ShapeMore.tab15 stockadelaw04_ShapeMore.bits15 (fun HT_ HW_ => ?_)
           generalize w107.drew = w109 at HO510 HO522 HO530 HO533 BK503 BK504 BK514 HB hHeld ⊢
           refine inv_at [0, 1, 2, 3, 4, 5, 6] (fun a0_ b a w' => ∃ (v537 : Value) (v545 : Value) (m4_ : Value), a = putSel a0_ b [(0, 65, .agg #[.int .i64 a1_0, .int .i64 a1_1, .int .i64 a1_2, .int .i64 a1_3]), (1, 66, v537), (2, 67, .agg #[.int .u8 t539, .int .u8 t540, .int .u8 t541, .int .i16 t542, .int .i32 t543]), (3, 68, v545), (4, 69, m4_), (5, 70, .bool true), (6, 8, .bool true)] ∧ (Kd.R k52 52 w' w.heap.size (fun k_ => some k_ ≠ (.slice Ao105 y531.length co105 : Value).ownBlock ∧ k_ ≠ gb504) (.slice Ao84 t508.length co84) t508) ∧ (Kd.R k40 40 w' w.heap.size (fun k_ => some k_ ≠ (.slice Ao102 t528.length co102 : Value).ownBlock) (.slice Ao93 y520.length co93) y520) ∧ (Kd.R k40 40 w' w.heap.size (fun k_ => some k_ ≠ (.slice Ao93 y520.length co93 : Value).ownBlock) (.slice Ao102 t528.length co102) t528) ∧ (Kd.R k52 52 w' w.heap.size (fun k_ => some k_ ≠ (.slice Ao84 t508.length co84 : Value).ownBlock ∧ k_ ≠ gb504) (.slice Ao105 y531.length co105) y531) ∧ (w'.heap[gb503]? = some (.cells #[.slice A0_0 l0_0.length c0_0, .slice A0_1 l0_1.length c0_1] 25 (0, 0))) ∧ (w'.heap[gb504]? = some (.cells #[.int .i64 a1_0, .int .i64 a1_1, .int .i64 a1_2, .int .i64 a1_3] 52 (0, 0))) ∧ (w'.heap[gb514]? = some (.cells #[.slice Ao105 y531.length co105, .slice Ao102 t528.length co102] 25 (0, 0))) ∧ (Below w.heap.size w w') ∧ (b 1 = true → Kd.R k52 52 w' w.heap.size (fun k_ => some k_ ≠ (.slice Ao84 t508.length co84 : Value).ownBlock ∧ some k_ ≠ (.slice Ao105 y531.length co105 : Value).ownBlock ∧ k_ ≠ gb504) v537 y536) ∧ (b 3 = true → Kd.R k40 40 w' w.heap.size (fun k_ => some k_ ≠ (.slice Ao93 y520.length co93 : Value).ownBlock ∧ some k_ ≠ (.slice Ao102 t528.length co102 : Value).ownBlock) v545 y544) ∧ (b 4 = true → (m4_ : Value) = .agg #[v537, v545])) HT_.out HW_.out (by kernel_rfl) (by kernel_rfl) ?_ ?_ ?_
           ·exact ⟨.bool false, .bool false, .bool false, by simp only [putSel, Bool.false_eq_true, if_false], (Kd.R_mono HO510.out (fun _ hk => by first | exact hk | grind)), (Kd.R_mono HO522.out (fun _ hk => by first | exact hk | grind)), (Kd.R_mono HO530.out (fun _ hk => by first | exact hk | grind)), (Kd.R_mono HO533.out (fun _ hk => by first | exact hk | grind)), BK503.out, BK504.out, BK514.out, HB.out, fun h_ => absurd h_ (by decide), fun h_ => absurd h_ (by decide), fun h_ => absurd h_ (by decide)⟩
           ·skip
            clear BK503 BK504 BK514 HB HO510 HO522 HO530 HO533
            refine steps_cons ?_ ?_
            ·rintro b a w' ⟨v537, v545, m4_, ha, Q_HO510, Q_HO522, Q_HO530, Q_HO533, Q_BK503, Q_BK504, Q_BK514, Q_HB, Q_HO538, Q_HO546, Q_X4_⟩ hb_ hon hoff
             refine ⟨_, rfl, fun K hK => ?_⟩
             have e3 : a.tmps[3]? = some (.pointer (some ⟨gb504, 0, none⟩)) := by rw [ha]; exact (putSel_off rfl).trans rfl
             replace ha := Aside0.mk ha
             have HO510 := Aside0.mk Q_HO510
             have HO522 := Aside0.mk Q_HO522
             have HO530 := Aside0.mk Q_HO530
             have HO533 := Aside0.mk Q_HO533
             have BK503 := Aside0.mk Q_BK503
             have BK504 := Aside0.mk Q_BK504
             have BK514 := Aside0.mk Q_BK514
             have HB := Aside0.mk Q_HB
             have hc0_ : w'.cell? ⟨gb504, 0, none⟩ = some (.int .i64 a1_0) := (blk_cell BK504.out 0).trans rfl
             have hc1_ : w'.cell? ⟨gb504, 1, none⟩ = some (.int .i64 a1_1) := (blk_cell BK504.out 1).trans rfl
             have hc2_ : w'.cell? ⟨gb504, 2, none⟩ = some (.int .i64 a1_2) := (blk_cell BK504.out 2).trans rfl
             have hc3_ : w'.cell? ⟨gb504, 3, none⟩ = some (.int .i64 a1_3) := (blk_cell BK504.out 3).trans rfl
             refine value_ (w1 := w') (v := .agg #[.int .i64 a1_0, .int .i64 a1_1, .int .i64 a1_2, .int .i64 a1_3]) (by rfl) rfl ?_ ?_
             ·go_simp
              (try simp only [i64_w])
              try rfl
             refine hK.out _ _ ⟨v537, v545, m4_, (by rw [ha.out]; exact putSel_upk 0 hb_ rfl rfl rfl), Q_HO510, Q_HO522, Q_HO530, Q_HO533, Q_BK503, Q_BK504, Q_BK514, Q_HB, fun h0_ => absurd ((hoff 1 (by kernel_rfl)).symm.trans h0_) (by decide), Q_HO546, fun h0_ => absurd ((hoff 4 (by kernel_rfl)).symm.trans h0_) (by decide)⟩
            refine steps_cons ?_ ?_
            ·rintro b a w' ⟨v537, v545, m4_, ha, Q_HO510, Q_HO522, Q_HO530, Q_HO533, Q_BK503, Q_BK504, Q_BK514, Q_HB, Q_HO538, Q_HO546, Q_X4_⟩ hb_ hon hoff
             refine ⟨_, rfl, fun K hK => ?_⟩
             have e65 : a.tmps[65]? = some (.agg #[.int .i64 a1_0, .int .i64 a1_1, .int .i64 a1_2, .int .i64 a1_3]) := by rw [ha]; exact putSel_on (e := (0, 65, .agg #[.int .i64 a1_0, .int .i64 a1_1, .int .i64 a1_2, .int .i64 a1_3])) 0 rfl rfl (hon 0 (by kernel_rfl)) rfl
             replace ha := Aside0.mk ha
             have HO510 := Aside0.mk Q_HO510
             have HO522 := Aside0.mk Q_HO522
             have HO530 := Aside0.mk Q_HO530
             have HO533 := Aside0.mk Q_HO533
             have BK503 := Aside0.mk Q_BK503
             have BK504 := Aside0.mk Q_BK504
             have BK514 := Aside0.mk Q_BK514
             have HB := Aside0.mk Q_HB
             refine Kd.R_lit_step k52 _ 52 ?hg (N := 66) ?hd (xs := ([(⟨a1_0, a1_1, a1_2, a1_3⟩ : S52)] : List (S52))) (inner := [.int .i64 a1_0, .int .i64 a1_1, .int .i64 a1_2, .int .i64 a1_3]) (ok := fun _ => True) (okp := fun _ => True) ?hr ?hp (fun _ hk => hk) trivial (Below.refl _ _) (Nat.le_refl _) (by simp) ?_; (case hd => rfl); (case hg => rfl); (case hr => first | (go_simp; done) | (go_simp; rfl)); (case hp => exact (Reps.c4 (show Kd.M k52 _ _ _ (⟨a1_0, a1_1, a1_2, a1_3⟩ : S52) [.int .i64 a1_0, .int .i64 a1_1, .int .i64 a1_2, .int .i64 a1_3] from (k52_mkM _ _ _ (⟨a1_0, a1_1, a1_2, a1_3⟩ : S52) )) (Reps.none _ _)))
             intro v537 w110 ho111 hb hg_ hnew_
             clear hg_ hnew_
             (first | rw [← Ny536.out] at ho111 | (simp only [Int.reduceToNat] at ho111; rw [← Ny536.out] at ho111))
             have n0_ := Aside0.mk (Kd.R_elder' (by (with_reducible repeat (first | apply Kd.R_alloc | apply Kd.R_drewN | apply Kd.R_drew)); exact HO510.out) (Kd.R_base ho111) hb)
             have n1_ := Aside0.mk (Kd.R_below (by (with_reducible repeat (first | apply Kd.R_alloc | apply Kd.R_drewN | apply Kd.R_drew)); exact HO522.out) hb)
             have n2_ := Aside0.mk (Kd.R_below (by (with_reducible repeat (first | apply Kd.R_alloc | apply Kd.R_drewN | apply Kd.R_drew)); exact HO530.out) hb)
             have n3_ := Aside0.mk (Kd.R_elder' (by (with_reducible repeat (first | apply Kd.R_alloc | apply Kd.R_drewN | apply Kd.R_drew)); exact HO533.out) (Kd.R_base ho111) hb)
             have n4_ := Aside0.mk (Kd.R_lower (Kd.R_newB (Kd.R_new' (Kd.R_new' ho111 (Kd.R_lt (by (with_reducible repeat (first | apply Kd.R_alloc | apply Kd.R_drewN | apply Kd.R_drew)); exact HO510.out))) (Kd.R_lt (by (with_reducible repeat (first | apply Kd.R_alloc | apply Kd.R_drewN | apply Kd.R_drew)); exact HO533.out))) (g := gb504) (o := .cells #[.int .i64 a1_0, .int .i64 a1_1, .int .i64 a1_2, .int .i64 a1_3] 52 (0, 0)) bk_now) (below_size b_now))
             have n5_ := Aside0.mk (blk_below (g := gb503) (o := .cells #[.slice A0_0 l0_0.length c0_0, .slice A0_1 l0_1.length c0_1] 25 (0, 0)) bk_now hb)
             have n6_ := Aside0.mk (blk_below (g := gb504) (o := .cells #[.int .i64 a1_0, .int .i64 a1_1, .int .i64 a1_2, .int .i64 a1_3] 52 (0, 0)) bk_now hb)
             have n7_ := Aside0.mk (blk_below (g := gb514) (o := .cells #[.slice Ao105 y531.length co105, .slice Ao102 t528.length co102] 25 (0, 0)) bk_now hb)
             have n8_ := Aside0.mk (below_step b_now hb)
             have z_HO546 := fun (h0_ : b 3 = true) => (show Kd.R k40 40 w110 w.heap.size (fun k_ => some k_ ≠ (.slice Ao93 y520.length co93 : Value).ownBlock ∧ some k_ ≠ (.slice Ao102 t528.length co102 : Value).ownBlock) v545 y544 from by first | exact (Kd.R_below (by (with_reducible repeat (first | apply Kd.R_alloc | apply Kd.R_drewN | apply Kd.R_drew)); exact (Q_HO546 h0_)) hb) | exact Kd.R_mono (Kd.R_below (by (with_reducible repeat (first | apply Kd.R_alloc | apply Kd.R_drewN | apply Kd.R_drew)); exact (Q_HO546 h0_)) hb) (fun _ h_ => by first | trivial | exact h_ | exact h_.1))
             clear HO510
             clear HO522
             clear HO530
             clear HO533
             clear BK503
             clear BK504
             clear BK514
             clear HB
             have HO510 := n0_
             have HO522 := n1_
             have HO530 := n2_
             have HO533 := n3_
             have HO538 := n4_
             have BK503 := n5_
             have BK504 := n6_
             have BK514 := n7_
             have HB := n8_
             clear n0_ n1_ n2_ n3_ n4_ n5_ n6_ n7_ n8_
             clear hb ho111
             refine hK.out _ _ ⟨v537, v545, m4_, (by rw [ha.out]; exact putSel_upk 1 hb_ rfl rfl rfl), (by (with_reducible repeat (first | apply Kd.R_alloc | apply Kd.R_drewN | apply Kd.R_drew)); exact Kd.R_mono HO510.out (fun _ hk => by first | exact ⟨hk.1.2, ⟨hk.2, hk.1.1⟩⟩ | grind)), (by (with_reducible repeat (first | apply Kd.R_alloc | apply Kd.R_drewN | apply Kd.R_drew)); exact Kd.R_mono HO522.out (fun _ hk => by first | exact hk.2 | grind)), (by (with_reducible repeat (first | apply Kd.R_alloc | apply Kd.R_drewN | apply Kd.R_drew)); exact Kd.R_mono HO530.out (fun _ hk => by first | exact hk.2 | grind)), (by (with_reducible repeat (first | apply Kd.R_alloc | apply Kd.R_drewN | apply Kd.R_drew)); exact Kd.R_mono HO533.out (fun _ hk => by first | exact ⟨hk.1.1, ⟨hk.2, hk.1.2⟩⟩ | grind)), bk_now, bk_now, bk_now, b_now, fun _ => (by (with_reducible repeat (first | apply Kd.R_alloc | apply Kd.R_drewN | apply Kd.R_drew)); exact Kd.R_mono HO538.out (fun _ hk => by first | exact ⟨hk.1.1.2, ⟨hk.1.2, hk.2⟩⟩ | grind)), z_HO546, fun h0_ => absurd ((hoff 4 (by kernel_rfl)).symm.trans h0_) (by decide)⟩
            refine steps_cons ?_ ?_
            ·rintro b a w' ⟨v537, v545, m4_, ha, Q_HO510, Q_HO522, Q_HO530, Q_HO533, Q_BK503, Q_BK504, Q_BK514, Q_HB, Q_HO538, Q_HO546, Q_X4_⟩ hb_ hon hoff
             refine ⟨_, rfl, fun K hK => ?_⟩
             replace ha := Aside0.mk ha
             have HO510 := Aside0.mk Q_HO510
             have HO522 := Aside0.mk Q_HO522
             have HO530 := Aside0.mk Q_HO530
             have HO533 := Aside0.mk Q_HO533
             have BK503 := Aside0.mk Q_BK503
             have BK504 := Aside0.mk Q_BK504
             have BK514 := Aside0.mk Q_BK514
             have HB := Aside0.mk Q_HB
             refine goes_ Tryd.func24 (by kernel_rfl) rfl #[] (by rfl) rfl rfl (by first | (simp only [List.map_toArray, List.map_cons, List.map_nil, Act.eval, Array.getD_eq_getD_getElem?, Option.getD_some]; done) | (simp only [List.map_toArray, List.map_cons, List.map_nil, Act.eval, Array.getD_eq_getD_getElem?, Option.getD_some]; rfl)) ?_
             with_reducible refine (stockadelaw04_exit.calls  t539 t540 t541 t542 t543 _ A76.out).mono ?_
             rintro e w110 ⟨rfl, hb⟩
             refine ⟨_, rfl, ?_⟩
             have n0_ := Aside0.mk (Kd.R_below (by (with_reducible repeat (first | apply Kd.R_alloc | apply Kd.R_drewN | apply Kd.R_drew)); exact HO510.out) hb)
             have n1_ := Aside0.mk (Kd.R_below (by (with_reducible repeat (first | apply Kd.R_alloc | apply Kd.R_drewN | apply Kd.R_drew)); exact HO522.out) hb)
             have n2_ := Aside0.mk (Kd.R_below (by (with_reducible repeat (first | apply Kd.R_alloc | apply Kd.R_drewN | apply Kd.R_drew)); exact HO530.out) hb)
             have n3_ := Aside0.mk (Kd.R_below (by (with_reducible repeat (first | apply Kd.R_alloc | apply Kd.R_drewN | apply Kd.R_drew)); exact HO533.out) hb)
             have n4_ := Aside0.mk (blk_below (g := gb503) (o := .cells #[.slice A0_0 l0_0.length c0_0, .slice A0_1 l0_1.length c0_1] 25 (0, 0)) bk_now hb)
             have n5_ := Aside0.mk (blk_below (g := gb504) (o := .cells #[.int .i64 a1_0, .int .i64 a1_1, .int .i64 a1_2, .int .i64 a1_3] 52 (0, 0)) bk_now hb)
             have n6_ := Aside0.mk (blk_below (g := gb514) (o := .cells #[.slice Ao105 y531.length co105, .slice Ao102 t528.length co102] 25 (0, 0)) bk_now hb)
             have n7_ := Aside0.mk (below_step b_now hb)
             have z_HO538 := fun (h0_ : b 1 = true) => (show Kd.R k52 52 w110 w.heap.size (fun k_ => some k_ ≠ (.slice Ao84 t508.length co84 : Value).ownBlock ∧ some k_ ≠ (.slice Ao105 y531.length co105 : Value).ownBlock ∧ k_ ≠ gb504) v537 y536 from by first | exact (Kd.R_below (by (with_reducible repeat (first | apply Kd.R_alloc | apply Kd.R_drewN | apply Kd.R_drew)); exact (Q_HO538 h0_)) hb) | exact Kd.R_mono (Kd.R_below (by (with_reducible repeat (first | apply Kd.R_alloc | apply Kd.R_drewN | apply Kd.R_drew)); exact (Q_HO538 h0_)) hb) (fun _ h_ => by first | trivial | exact h_ | exact h_.1))
             clear HO510
             clear HO522
             clear HO530
             clear HO533
             clear BK503
             clear BK504
             clear BK514
             clear HB
             have HO510 := n0_
             have HO522 := n1_
             have HO530 := n2_
             have HO533 := n3_
             have BK503 := n4_
             have BK504 := n5_
             have BK514 := n6_
             have HB := n7_
             clear n0_ n1_ n2_ n3_ n4_ n5_ n6_ n7_
             (try clear hb)
             (try clear hb2)
             (try clear hk)
             (try clear hi)
             refine hK.out _ _ ⟨v537, v545, m4_, (by rw [ha.out]; exact putSel_upk 2 hb_ rfl rfl rfl), (by (with_reducible repeat (first | apply Kd.R_alloc | apply Kd.R_drewN | apply Kd.R_drew)); exact Kd.R_mono HO510.out (fun _ hk => by first | exact ⟨hk.2, hk.1⟩ | exact hk | exact hk.1 | exact hk.2)), (by (with_reducible repeat (first | apply Kd.R_alloc | apply Kd.R_drewN | apply Kd.R_drew)); exact Kd.R_mono HO522.out (fun _ hk => by first | exact hk.2 | grind)), (by (with_reducible repeat (first | apply Kd.R_alloc | apply Kd.R_drewN | apply Kd.R_drew)); exact Kd.R_mono HO530.out (fun _ hk => by first | exact hk.2 | grind)), (by (with_reducible repeat (first | apply Kd.R_alloc | apply Kd.R_drewN | apply Kd.R_drew)); (first | exact HO533.out | exact Kd.R_mono HO533.out (fun _ hk => by grind))), bk_now, bk_now, bk_now, b_now, z_HO538, fun h0_ => absurd ((hoff 3 (by kernel_rfl)).symm.trans h0_) (by decide), fun h0_ => absurd ((hoff 4 (by kernel_rfl)).symm.trans h0_) (by decide)⟩
            refine steps_cons ?_ ?_
            ·rintro b a w' ⟨v537, v545, m4_, ha, Q_HO510, Q_HO522, Q_HO530, Q_HO533, Q_BK503, Q_BK504, Q_BK514, Q_HB, Q_HO538, Q_HO546, Q_X4_⟩ hb_ hon hoff
             refine ⟨_, rfl, fun K hK => ?_⟩
             have e67 : a.tmps[67]? = some (.agg #[.int .u8 t539, .int .u8 t540, .int .u8 t541, .int .i16 t542, .int .i32 t543]) := by rw [ha]; exact putSel_on (e := (2, 67, .agg #[.int .u8 t539, .int .u8 t540, .int .u8 t541, .int .i16 t542, .int .i32 t543])) 2 rfl rfl (hon 2 (by kernel_rfl)) rfl
             replace ha := Aside0.mk ha
             have HO510 := Aside0.mk Q_HO510
             have HO522 := Aside0.mk Q_HO522
             have HO530 := Aside0.mk Q_HO530
             have HO533 := Aside0.mk Q_HO533
             have BK503 := Aside0.mk Q_BK503
             have BK504 := Aside0.mk Q_BK504
             have BK514 := Aside0.mk Q_BK514
             have HB := Aside0.mk Q_HB
             refine Kd.R_lit_step k40 _ 40 ?hg (N := 68) ?hd (xs := ([(⟨t539, t540, t541, t542, t543⟩ : S40)] : List (S40))) (inner := [.int .u8 t539, .int .u8 t540, .int .u8 t541, .int .i16 t542, .int .i32 t543]) (ok := fun _ => True) (okp := fun _ => True) ?hr ?hp (fun _ hk => hk) trivial (Below.refl _ _) (Nat.le_refl _) (by simp) ?_; (case hd => rfl); (case hg => rfl); (case hr => first | (go_simp; done) | (go_simp; rfl)); (case hp => exact (Reps.c5 (show Kd.M k40 _ _ _ (⟨t539, t540, t541, t542, t543⟩ : S40) [.int .u8 t539, .int .u8 t540, .int .u8 t541, .int .i16 t542, .int .i32 t543] from (k40_mkM _ _ _ (⟨t539, t540, t541, t542, t543⟩ : S40) )) (Reps.none _ _)))
             intro v545 w112 ho113 hb hg_ hnew_
             clear hg_ hnew_
             (first | rw [← Ny544.out] at ho113 | (simp only [Int.reduceToNat] at ho113; rw [← Ny544.out] at ho113))
             have n0_ := Aside0.mk (Kd.R_below (by (with_reducible repeat (first | apply Kd.R_alloc | apply Kd.R_drewN | apply Kd.R_drew)); exact HO510.out) hb)
             have n1_ := Aside0.mk (Kd.R_elder' (by (with_reducible repeat (first | apply Kd.R_alloc | apply Kd.R_drewN | apply Kd.R_drew)); exact HO522.out) (Kd.R_base ho113) hb)
             have n2_ := Aside0.mk (Kd.R_elder' (by (with_reducible repeat (first | apply Kd.R_alloc | apply Kd.R_drewN | apply Kd.R_drew)); exact HO530.out) (Kd.R_base ho113) hb)
             have n3_ := Aside0.mk (Kd.R_below (by (with_reducible repeat (first | apply Kd.R_alloc | apply Kd.R_drewN | apply Kd.R_drew)); exact HO533.out) hb)
             have n4_ := Aside0.mk (Kd.R_lower (Kd.R_new' (Kd.R_new' ho113 (Kd.R_lt (by (with_reducible repeat (first | apply Kd.R_alloc | apply Kd.R_drewN | apply Kd.R_drew)); exact HO522.out))) (Kd.R_lt (by (with_reducible repeat (first | apply Kd.R_alloc | apply Kd.R_drewN | apply Kd.R_drew)); exact HO530.out))) (below_size b_now))
             have n5_ := Aside0.mk (blk_below (g := gb503) (o := .cells #[.slice A0_0 l0_0.length c0_0, .slice A0_1 l0_1.length c0_1] 25 (0, 0)) bk_now hb)
             have n6_ := Aside0.mk (blk_below (g := gb504) (o := .cells #[.int .i64 a1_0, .int .i64 a1_1, .int .i64 a1_2, .int .i64 a1_3] 52 (0, 0)) bk_now hb)
             have n7_ := Aside0.mk (blk_below (g := gb514) (o := .cells #[.slice Ao105 y531.length co105, .slice Ao102 t528.length co102] 25 (0, 0)) bk_now hb)
             have n8_ := Aside0.mk (below_step b_now hb)
             have z_HO538 := fun (h0_ : b 1 = true) => (show Kd.R k52 52 w112 w.heap.size (fun k_ => some k_ ≠ (.slice Ao84 t508.length co84 : Value).ownBlock ∧ some k_ ≠ (.slice Ao105 y531.length co105 : Value).ownBlock ∧ k_ ≠ gb504) v537 y536 from by first | exact (Kd.R_below (by (with_reducible repeat (first | apply Kd.R_alloc | apply Kd.R_drewN | apply Kd.R_drew)); exact (Q_HO538 h0_)) hb) | exact Kd.R_mono (Kd.R_below (by (with_reducible repeat (first | apply Kd.R_alloc | apply Kd.R_drewN | apply Kd.R_drew)); exact (Q_HO538 h0_)) hb) (fun _ h_ => by first | trivial | exact h_ | exact h_.1))
             clear HO510
             clear HO522
             clear HO530
             clear HO533
             clear BK503
             clear BK504
             clear BK514
             clear HB
             have HO510 := n0_
             have HO522 := n1_
             have HO530 := n2_
             have HO533 := n3_
             have HO546 := n4_
             have BK503 := n5_
             have BK504 := n6_
             have BK514 := n7_
             have HB := n8_
             clear n0_ n1_ n2_ n3_ n4_ n5_ n6_ n7_ n8_
             clear hb ho113
             refine hK.out _ _ ⟨v537, v545, m4_, (by rw [ha.out]; exact putSel_upk 3 hb_ rfl rfl rfl), (by (with_reducible repeat (first | apply Kd.R_alloc | apply Kd.R_drewN | apply Kd.R_drew)); (first | exact HO510.out | exact Kd.R_mono HO510.out (fun _ hk => by grind))), (by (with_reducible repeat (first | apply Kd.R_alloc | apply Kd.R_drewN | apply Kd.R_drew)); (first | exact HO522.out | exact Kd.R_mono HO522.out (fun _ hk => by grind))), (by (with_reducible repeat (first | apply Kd.R_alloc | apply Kd.R_drewN | apply Kd.R_drew)); (first | exact HO530.out | exact Kd.R_mono HO530.out (fun _ hk => by grind))), (by (with_reducible repeat (first | apply Kd.R_alloc | apply Kd.R_drewN | apply Kd.R_drew)); (first | exact HO533.out | exact Kd.R_mono HO533.out (fun _ hk => by grind))), bk_now, bk_now, bk_now, b_now, z_HO538, fun _ => (by (with_reducible repeat (first | apply Kd.R_alloc | apply Kd.R_drewN | apply Kd.R_drew)); exact Kd.R_mono HO546.out (fun _ hk => by first | exact ⟨hk.1.2, hk.2⟩ | grind)), fun h0_ => absurd ((hoff 4 (by kernel_rfl)).symm.trans h0_) (by decide)⟩
            refine steps_cons ?_ ?_
            ·rintro b a w' ⟨v537, v545, m4_, ha, Q_HO510, Q_HO522, Q_HO530, Q_HO533, Q_BK503, Q_BK504, Q_BK514, Q_HB, Q_HO538, Q_HO546, Q_X4_⟩ hb_ hon hoff
             refine ⟨_, rfl, fun K hK => ?_⟩
             have e66 : a.tmps[66]? = some (v537) := by rw [ha]; exact putSel_on (e := (1, 66, v537)) 1 rfl rfl (hon 1 (by kernel_rfl)) rfl
             have e68 : a.tmps[68]? = some (v545) := by rw [ha]; exact putSel_on (e := (3, 68, v545)) 3 rfl rfl (hon 3 (by kernel_rfl)) rfl
             replace ha := Aside0.mk ha
             have HO510 := Aside0.mk Q_HO510
             have HO522 := Aside0.mk Q_HO522
             have HO530 := Aside0.mk Q_HO530
             have HO533 := Aside0.mk Q_HO533
             have BK503 := Aside0.mk Q_BK503
             have BK504 := Aside0.mk Q_BK504
             have BK514 := Aside0.mk Q_BK514
             have HB := Aside0.mk Q_HB
             have HO538 := Aside0.mk (Q_HO538 (hon 1 (by kernel_rfl)))
             have HO546 := Aside0.mk (Q_HO546 (hon 3 (by kernel_rfl)))
             obtain ⟨Ao4_0, co4_0, eo_⟩ := Kd.R_slice HO538.out
             subst eo_
             obtain ⟨Ao4_1, co4_1, eo_⟩ := Kd.R_slice HO546.out
             subst eo_
             refine value_ (w1 := w') (v := .agg #[.slice Ao4_0 y536.length co4_0, .slice Ao4_1 y544.length co4_1]) (by rfl) rfl ?_ ?_
             ·go_simp
              (try simp only [i64_w])
              try rfl
             refine hK.out _ _ ⟨.slice Ao4_0 y536.length co4_0, .slice Ao4_1 y544.length co4_1, (.agg #[.slice Ao4_0 y536.length co4_0, .slice Ao4_1 y544.length co4_1]), (by rw [ha.out]; exact putSel_upk 4 hb_ rfl rfl rfl), Q_HO510, Q_HO522, Q_HO530, Q_HO533, Q_BK503, Q_BK504, Q_BK514, Q_HB, Q_HO538, Q_HO546, fun _ => rfl⟩
            refine steps_cons ?_ ?_
            ·rintro b a w' ⟨v537, v545, m4_, ha, Q_HO510, Q_HO522, Q_HO530, Q_HO533, Q_BK503, Q_BK504, Q_BK514, Q_HB, Q_HO538, Q_HO546, Q_X4_⟩ hb_ hon hoff
             refine ⟨_, rfl, fun K hK => ?_⟩
             have e69 : a.tmps[69]? = some (m4_) := by rw [ha]; exact putSel_on (e := (4, 69, m4_)) 4 rfl rfl (hon 4 (by kernel_rfl)) rfl
             rw [Q_X4_ (hon 4 (by kernel_rfl))] at e69
             replace ha := Aside0.mk ha
             have HO510 := Aside0.mk Q_HO510
             have HO522 := Aside0.mk Q_HO522
             have HO530 := Aside0.mk Q_HO530
             have HO533 := Aside0.mk Q_HO533
             have BK503 := Aside0.mk Q_BK503
             have BK504 := Aside0.mk Q_BK504
             have BK514 := Aside0.mk Q_BK514
             have HB := Aside0.mk Q_HB
             have HO538 := Aside0.mk (Q_HO538 (hon 1 (by kernel_rfl)))
             have HO546 := Aside0.mk (Q_HO546 (hon 3 (by kernel_rfl)))
             obtain ⟨Ao118, co118, eo118⟩ := Kd.R_slice HO546.out
             (first | subst eo118 | (injection eo118 with f1_ f2_ f3_; have f4_ := f1_.symm; have f5_ := f3_.symm; clear f1_ f2_ f3_; subst f4_; subst f5_))
             obtain ⟨Ao119, co119, eo119⟩ := Kd.R_slice HO538.out
             (first | subst eo119 | (injection eo119 with f1_ f2_ f3_; have f4_ := f1_.symm; have f5_ := f3_.symm; clear f1_ f2_ f3_; subst f4_; subst f5_))
             refine goes_ Tryd.func21 (by kernel_rfl) rfl #[.agg #[.slice Ao119 y536.length co119, .slice Ao118 y544.length co118]] (by rfl) rfl rfl (by first | (simp only [List.map_toArray, List.map_cons, List.map_nil, Act.eval, Array.getD_eq_getD_getElem?, Option.getD_some, e69]; done) | (simp only [List.map_toArray, List.map_cons, List.map_nil, Act.eval, Array.getD_eq_getD_getElem?, Option.getD_some, e69]; rfl)) ?_
             with_reducible refine (stockadelaw04_right.calls _ _ y536 _ _ y544 true _ ?side1 ?side2 ?side3 ?side4 ?side5 A77.out).mono ?_
             (case side1 => repeat (first | exact (Kd.R_reads' HO538.out).2.2 | (with_reducible refine Kd.C_alloc ?_ _) | (with_reducible refine Kd.C_drewN ?_ _) | (with_reducible refine Kd.C_drew ?_)))
             (case side2 => exact (Kd.R_reads' HO538.out).2.1)
             (case side3 => repeat (first | exact (Kd.R_reads' HO546.out).2.2 | (with_reducible refine Kd.C_alloc ?_ _) | (with_reducible refine Kd.C_drewN ?_ _) | (with_reducible refine Kd.C_drew ?_)))
             (case side4 => exact (Kd.R_reads' HO546.out).2.1)
             (case side5 => repeat (first | exact (Kd.C_below HRG0.out HB.out) | (with_reducible refine Kd.C_alloc ?_ _) | (with_reducible refine Kd.C_drewN ?_ _) | (with_reducible refine Kd.C_drew ?_)))
             rintro e w120 ⟨rfl, hb⟩
             refine ⟨_, rfl, ?_⟩
             have n0_ := Aside0.mk (Kd.R_below (by (with_reducible repeat (first | apply Kd.R_alloc | apply Kd.R_drewN | apply Kd.R_drew)); exact HO510.out) hb)
             have n1_ := Aside0.mk (Kd.R_below (by (with_reducible repeat (first | apply Kd.R_alloc | apply Kd.R_drewN | apply Kd.R_drew)); exact HO522.out) hb)
             have n2_ := Aside0.mk (Kd.R_below (by (with_reducible repeat (first | apply Kd.R_alloc | apply Kd.R_drewN | apply Kd.R_drew)); exact HO530.out) hb)
             have n3_ := Aside0.mk (Kd.R_below (by (with_reducible repeat (first | apply Kd.R_alloc | apply Kd.R_drewN | apply Kd.R_drew)); exact HO533.out) hb)
             have n4_ := Aside0.mk (Kd.R_below (by (with_reducible repeat (first | apply Kd.R_alloc | apply Kd.R_drewN | apply Kd.R_drew)); exact HO538.out) hb)
             have n5_ := Aside0.mk (Kd.R_below (by (with_reducible repeat (first | apply Kd.R_alloc | apply Kd.R_drewN | apply Kd.R_drew)); exact HO546.out) hb)
             have n6_ := Aside0.mk (blk_below (g := gb503) (o := .cells #[.slice A0_0 l0_0.length c0_0, .slice A0_1 l0_1.length c0_1] 25 (0, 0)) bk_now hb)
             have n7_ := Aside0.mk (blk_below (g := gb504) (o := .cells #[.int .i64 a1_0, .int .i64 a1_1, .int .i64 a1_2, .int .i64 a1_3] 52 (0, 0)) bk_now hb)
             have n8_ := Aside0.mk (blk_below (g := gb514) (o := .cells #[.slice Ao105 y531.length co105, .slice Ao102 t528.length co102] 25 (0, 0)) bk_now hb)
             have n9_ := Aside0.mk (below_step b_now hb)
             clear HO510
             clear HO522
             clear HO530
             clear HO533
             clear HO538
             clear HO546
             clear BK503
             clear BK504
             clear BK514
             clear HB
             have HO510 := n0_
             have HO522 := n1_
             have HO530 := n2_
             have HO533 := n3_
             have HO538 := n4_
             have HO546 := n5_
             have BK503 := n6_
             have BK504 := n7_
             have BK514 := n8_
             have HB := n9_
             clear n0_ n1_ n2_ n3_ n4_ n5_ n6_ n7_ n8_ n9_
             (try clear hb)
             (try clear hb2)
             (try clear hk)
             (try clear hi)
             refine hK.out _ _ ⟨.slice Ao119 y536.length co119, .slice Ao118 y544.length co118, m4_, (by rw [ha.out]; exact putSel_upk 5 hb_ rfl rfl rfl), (by (with_reducible repeat (first | apply Kd.R_alloc | apply Kd.R_drewN | apply Kd.R_drew)); (first | exact HO510.out | exact Kd.R_mono HO510.out (fun _ hk => by grind))), (by (with_reducible repeat (first | apply Kd.R_alloc | apply Kd.R_drewN | apply Kd.R_drew)); (first | exact HO522.out | exact Kd.R_mono HO522.out (fun _ hk => by grind))), (by (with_reducible repeat (first | apply Kd.R_alloc | apply Kd.R_drewN | apply Kd.R_drew)); (first | exact HO530.out | exact Kd.R_mono HO530.out (fun _ hk => by grind))), (by (with_reducible repeat (first | apply Kd.R_alloc | apply Kd.R_drewN | apply Kd.R_drew)); (first | exact HO533.out | exact Kd.R_mono HO533.out (fun _ hk => by grind))), bk_now, bk_now, bk_now, b_now, fun _ => (by (with_reducible repeat (first | apply Kd.R_alloc | apply Kd.R_drewN | apply Kd.R_drew)); (first | exact HO538.out | exact Kd.R_mono HO538.out (fun _ hk => by grind))), fun _ => (by (with_reducible repeat (first | apply Kd.R_alloc | apply Kd.R_drewN | apply Kd.R_drew)); (first | exact HO546.out | exact Kd.R_mono HO546.out (fun _ hk => by grind))), Q_X4_⟩
            refine steps_cons ?_ ?_
            ·rintro b a w' ⟨v537, v545, m4_, ha, Q_HO510, Q_HO522, Q_HO530, Q_HO533, Q_BK503, Q_BK504, Q_BK514, Q_HB, Q_HO538, Q_HO546, Q_X4_⟩ hb_ hon hoff
             refine ⟨_, rfl, fun K hK => ?_⟩
             have e70 : a.tmps[70]? = some (.bool true) := by rw [ha]; exact putSel_on (e := (5, 70, .bool true)) 5 rfl rfl (hon 5 (by kernel_rfl)) rfl
             replace ha := Aside0.mk ha
             have HO510 := Aside0.mk Q_HO510
             have HO522 := Aside0.mk Q_HO522
             have HO530 := Aside0.mk Q_HO530
             have HO533 := Aside0.mk Q_HO533
             have BK503 := Aside0.mk Q_BK503
             have BK504 := Aside0.mk Q_BK504
             have BK514 := Aside0.mk Q_BK514
             have HB := Aside0.mk Q_HB
             have HO538 := Aside0.mk (Q_HO538 (hon 1 (by kernel_rfl)))
             have HO546 := Aside0.mk (Q_HO546 (hon 3 (by kernel_rfl)))
             refine value_ (w1 := w') (v := .bool true) (by rfl) rfl ?_ ?_
             ·go_simp
              (try simp only [i64_w])
              try rfl
             refine hK.out _ _ ⟨v537, v545, m4_, (by rw [ha.out]; exact putSel_upk 6 hb_ rfl rfl rfl), Q_HO510, Q_HO522, Q_HO530, Q_HO533, Q_BK503, Q_BK504, Q_BK514, Q_HB, Q_HO538, Q_HO546, Q_X4_⟩
            exact steps_nil
           rintro b a w118 hall ⟨v537, v545, m4_, ha, Q_HO510, Q_HO522, Q_HO530, Q_HO533, Q_BK503, Q_BK504, Q_BK514, Q_HB, Q_HO538, Q_HO546, Q_X4_⟩
           clear BK503 BK504 BK514 HB HO510 HO522 HO530 HO533
           have hb0_ := hall 0 (by kernel_rfl)
           have hb1_ := hall 1 (by kernel_rfl)
           have hb2_ := hall 2 (by kernel_rfl)
           have hb3_ := hall 3 (by kernel_rfl)
           have hb4_ := hall 4 (by kernel_rfl)
           have hb5_ := hall 5 (by kernel_rfl)
           have hb6_ := hall 6 (by kernel_rfl)
           subst ha
           obtain rfl := Q_X4_ hb4_
           simp only [putSel, hb0_, hb1_, hb2_, hb3_, hb4_, hb5_, hb6_, if_true, Act.put, List.setIfInBounds_toArray, List.set_cons_zero, List.set_cons_succ]
           have HO510 := Aside0.mk Q_HO510
           clear Q_HO510
           have HO522 := Aside0.mk Q_HO522
           clear Q_HO522
           have HO530 := Aside0.mk Q_HO530
           clear Q_HO530
           have HO533 := Aside0.mk Q_HO533
           clear Q_HO533
           have BK503 := Aside0.mk Q_BK503
           clear Q_BK503
           have BK504 := Aside0.mk Q_BK504
           clear Q_BK504
           have BK514 := Aside0.mk Q_BK514
           clear Q_BK514
           have HB := Aside0.mk Q_HB
           clear Q_HB
           have HO538 := Aside0.mk (Q_HO538 hb1_)
           clear Q_HO538
           have HO546 := Aside0.mk (Q_HO546 hb3_)
           clear Q_HO546
           clear hall hb0_ hb1_ hb2_ hb3_ hb4_ hb5_ hb6_
           obtain ⟨Ao119, co119, eo119⟩ := Kd.R_slice HO546.out
           (first | subst eo119 | (injection eo119 with f1_ f2_ f3_; have f4_ := f1_.symm; have f5_ := f3_.symm; clear f1_ f2_ f3_; subst f4_; subst f5_))
           obtain ⟨Ao120, co120, eo120⟩ := Kd.R_slice HO538.out
           (first | subst eo120 | (injection eo120 with f1_ f2_ f3_; have f4_ := f1_.symm; have f5_ := f3_.symm; clear f1_ f2_ f3_; subst f4_; subst f5_))
           try go_wp2
           go_ret
           exact ⟨ret_now, b_now⟩
          ·replace c79 := Bool.eq_false_iff.mpr c79
           subst c79
           replace H := sh_f H
           by_cases c121 : t535 = 26
           ·rw [if_pos c121] at H
            have c121b0 : (t535 == 26) = true := beq_iff_eq.mpr c121
            have c121b1 : (t535 != 26) = false := bne_eq_false_iff_eq.mpr c121
            clear c121
            obtain rfl := Option.some.inj H
            have hnb122 := NB503_504.out
            have hnc122 := NB504_503.out
            have hcz123 := blk_all2 BK503.out
            try go_wp2_with (first | ((with_reducible refine gate_callee (f := 10) rfl ?_); refine sh_call (some 18) Tryd.func10 #[.agg #[.slice A0_0 l0_0.length c0_0, .slice A0_1 l0_1.length c0_1]] ?_; (with_reducible refine (stockadelaw04_twin.calls _ _ l0_0 _ _ l0_1 t508 t511 _ ?side1 ?side2 ?side3 ?side4 A17.out).mono ?_); (case side1 => repeat (first | exact (Kd.C_below HR0_0.out HB.out) | (with_reducible refine Kd.C_alloc ?_ _) | (with_reducible refine Kd.C_drewN ?_ _) | (with_reducible refine Kd.C_drew ?_))); (case side2 => exact HC0_0.out); (case side3 => repeat (first | exact (Kd.C_below HR0_1.out HB.out) | (with_reducible refine Kd.C_alloc ?_ _) | (with_reducible refine Kd.C_drewN ?_ _) | (with_reducible refine Kd.C_drew ?_))); (case side4 => exact HC0_1.out); rintro e w124 ⟨v509, v512, rfl, ho0, ho1, hb⟩; refine ⟨_, rfl, ?_⟩; have HO510 := Aside0.mk (Kd.R_lower (Kd.R_newB ho0 (g := gb504) (o := .cells #[.int .i64 a1_0, .int .i64 a1_1, .int .i64 a1_2, .int .i64 a1_3] 52 (0, 0)) bk_now) (below_size b_now)); have HO513 := Aside0.mk (Kd.R_lower ho1 (below_size b_now)); replace BK503 := sh_k BK503 hb; replace BK504 := sh_k BK504 hb; replace HB := sh_b (w := w) hb; (try clear hb); (try clear hb2); (try clear hk); (try clear hi); (try clear ho0); (try clear ho1)) | ((with_reducible refine gate_dst (N := 5) rfl ?_); (try (refine gate_guard (by rfl) ?_; dsimp only)); refine sh_box 5 #[.slice none 0 0, .slice none 0 0] 25 ?_; intro gb514 hg w125 hbox hb; have GE514 := sh_z (w := w) hg; have NB503_514 := sh_n BK503 hg; have NB504_514 := sh_n BK504 hg; have NB514_503 := sh_s NB503_514; have NB514_504 := sh_s NB504_514; replace HO510 := Aside0.mk (Kd.R_below (by (with_reducible repeat (first | apply Kd.R_alloc | apply Kd.R_drewN | apply Kd.R_drew)); exact HO510.out) hb); replace HO513 := Aside0.mk (Kd.R_below (by (with_reducible repeat (first | apply Kd.R_alloc | apply Kd.R_drewN | apply Kd.R_drew)); exact HO513.out) hb); replace BK503 := sh_k BK503 hb; replace BK504 := sh_k BK504 hb; replace HB := sh_b (w := w) hb; have BK514 := Aside0.mk (hbox); clear hb hbox hg; obtain ⟨Ao126, co126, eo126⟩ := Kd.R_slice HO510.out; subst eo126; have hnb127 := NB514_503.out; have hnc127 := NB503_514.out; have hnb128 := NB514_504.out; have hnc128 := NB504_514.out; have hcz129 := blk_all2 BK514.out; obtain ⟨Ao130, co130, eo130⟩ := Kd.R_slice HO513.out; subst eo130))
            have n0_ : Aside0 (Kd.R k52 52 ((w125.setCell ⟨gb514, 0, none⟩ (.slice Ao126 t508.length co126)).setCell ⟨gb514, 1, none⟩ (.slice Ao130 t511.length co130)) w.heap.size (fun k_ => k_ ≠ gb504) (.slice Ao126 t508.length co126) t508) := ⟨by (with_reducible repeat (first | apply Kd.R_alloc | apply Kd.R_drewN | apply Kd.R_drew)); exact Kd.R_mono (Kd.R_far (p := ⟨gb514, 1, none⟩) (Kd.R_far (p := ⟨gb514, 0, none⟩) (Kd.R_types HO510.out BK514.out (by decide)) (fun _ hk => hk.2) (.slice Ao126 t508.length co126)) (fun _ hk => hk.2) (.slice Ao130 t511.length co130)) (fun _ hk => hk.1.2)⟩
            have n1_ : Aside0 (Kd.R k40 40 ((w125.setCell ⟨gb514, 0, none⟩ (.slice Ao126 t508.length co126)).setCell ⟨gb514, 1, none⟩ (.slice Ao130 t511.length co130)) w.heap.size (fun _ => True) (.slice Ao130 t511.length co130) t511) := ⟨by (with_reducible repeat (first | apply Kd.R_alloc | apply Kd.R_drewN | apply Kd.R_drew)); exact Kd.R_mono (Kd.R_far (p := ⟨gb514, 1, none⟩) (Kd.R_far (p := ⟨gb514, 0, none⟩) (Kd.R_types HO513.out BK514.out (by decide)) (fun _ hk => hk.2) (.slice Ao126 t508.length co126)) (fun _ hk => hk.2) (.slice Ao130 t511.length co130)) (fun _ hk => trivial)⟩
            have n2_ : Aside0 (((w125.setCell ⟨gb514, 0, none⟩ (.slice Ao126 t508.length co126)).setCell ⟨gb514, 1, none⟩ (.slice Ao130 t511.length co130)).heap[gb503]? = some (.cells #[.slice A0_0 l0_0.length c0_0, .slice A0_1 l0_1.length c0_1] 25 (0, 0))) := ⟨bk_now⟩
            have n3_ : Aside0 (((w125.setCell ⟨gb514, 0, none⟩ (.slice Ao126 t508.length co126)).setCell ⟨gb514, 1, none⟩ (.slice Ao130 t511.length co130)).heap[gb504]? = some (.cells #[.int .i64 a1_0, .int .i64 a1_1, .int .i64 a1_2, .int .i64 a1_3] 52 (0, 0))) := ⟨bk_now⟩
            have n4_ : Aside0 (((w125.setCell ⟨gb514, 0, none⟩ (.slice Ao126 t508.length co126)).setCell ⟨gb514, 1, none⟩ (.slice Ao130 t511.length co130)).heap[gb514]? = some (.cells #[.slice Ao126 t508.length co126, .slice Ao130 t511.length co130] 25 (0, 0))) := ⟨bk_now⟩
            have n5_ : Aside0 (Below w.heap.size w ((w125.setCell ⟨gb514, 0, none⟩ (.slice Ao126 t508.length co126)).setCell ⟨gb514, 1, none⟩ (.slice Ao130 t511.length co130))) := ⟨b_now⟩
            (try clear HO510)
            (try clear HO513)
            (try clear BK503)
            (try clear BK504)
            (try clear BK514)
            (try clear HB)
            generalize ((w125.setCell ⟨gb514, 0, none⟩ (.slice Ao126 t508.length co126)).setCell ⟨gb514, 1, none⟩ (.slice Ao130 t511.length co130)) = w131 at n0_ n1_ n2_ n3_ n4_ n5_ ⊢
            have HO510 := n0_
            have HO513 := n1_
            have BK503 := n2_
            have BK504 := n3_
            have BK514 := n4_
            have HB := n5_
            clear n0_ n1_ n2_ n3_ n4_ n5_
            have n0_ := Aside0.mk (Kd.R_drew HO510.out)
            have n1_ := Aside0.mk (Kd.R_drew HO513.out)
            have n2_ := Aside0.mk (blk_drew BK503.out)
            have n3_ := Aside0.mk (blk_drew BK504.out)
            have n4_ := Aside0.mk (blk_drew BK514.out)
            have n5_ := Aside0.mk (below_drew1 HB.out)
            clear HO510
            clear HO513
            clear BK503
            clear BK504
            clear BK514
            clear HB
            have HO510 := n0_
            have HO513 := n1_
            have BK503 := n2_
            have BK504 := n3_
            have BK514 := n4_
            have HB := n5_
            clear n0_ n1_ n2_ n3_ n4_ n5_
            refine start_ (n := 7) (S := fun w' => w'.cell? ⟨gb514, 0, none⟩ = some (.slice Ao126 t508.length co126) ∧ w'.cell? ⟨gb514, 1, none⟩ = some (.slice Ao130 t511.length co130)) (ds := [6]) #[false, false, false, false, false, false, false] (by kernel_rfl) rfl rfl ⟨(blk_cell BK514.out 0).trans rfl, (blk_cell BK514.out 1).trans rfl⟩ (fun hHeld => ?_)
            generalize w131.drew = w132 at HO510 HO513 BK503 BK504 BK514 HB hHeld ⊢
            refine pure_ (i := 0) (N := some 19) (v := ?_) (a' := ?_) #[true, false, false, false, false, false, false] rfl rfl (by kernel_rfl) (fun _ _ _ h => h) (Or.inl ⟨by rfl, ?_⟩) ?_ ?_
            rotate_left
            ·intro w'
             go_simp
             with_reducible rfl
            rotate_left
            ·simp only [Act.put, List.setIfInBounds_toArray, List.set_cons_zero, List.set_cons_succ, i64_w, i32_w]
             rfl
            refine take_ (i := 1) (N := some 20) (v := ?_) (a' := ?_) #[true, true, false, false, false, false, false] rfl rfl (by kernel_rfl) (fun _ _ _ h => h) (Or.inl ⟨by rfl, ?_⟩) hHeld ?_ ?_
            rotate_left
            ·rintro w' ⟨s0, s1⟩
             go_simp
             with_reducible rfl
            rotate_left
            ·simp only [Act.put, List.setIfInBounds_toArray, List.set_cons_zero, List.set_cons_succ, i64_w, i32_w]
             rfl
            refine one_ (i := 2) (N := some 21) #[true, true, true, false, false, false, false] rfl rfl (by kernel_rfl) (by decide) (fun K hK => ?_)
            refine goes_ Tryd.func24 (by kernel_rfl) rfl #[] (by rfl) rfl rfl (by (try simp only [List.map_toArray, List.map_cons, List.map_nil]); first | done | rfl | (simp only [List.length_drop, List.length_take]; rfl)) ?_
            with_reducible refine (stockadelaw04_exit.calls  t515 t516 t517 t518 t519 _ A18.out).mono ?_
            rintro e w133 ⟨rfl, hb⟩
            refine ⟨_, rfl, ?_⟩
            have n0_ := Aside0.mk (Kd.R_below (by (with_reducible repeat (first | apply Kd.R_alloc | apply Kd.R_drewN | apply Kd.R_drew)); exact HO510.out) hb)
            have n1_ := Aside0.mk (Kd.R_below (by (with_reducible repeat (first | apply Kd.R_alloc | apply Kd.R_drewN | apply Kd.R_drew)); exact HO513.out) hb)
            have n2_ := Aside0.mk (blk_below (g := gb503) (o := .cells #[.slice A0_0 l0_0.length c0_0, .slice A0_1 l0_1.length c0_1] 25 (0, 0)) bk_now hb)
            have n3_ := Aside0.mk (blk_below (g := gb504) (o := .cells #[.int .i64 a1_0, .int .i64 a1_1, .int .i64 a1_2, .int .i64 a1_3] 52 (0, 0)) bk_now hb)
            have n4_ := Aside0.mk (blk_below (g := gb514) (o := .cells #[.slice Ao126 t508.length co126, .slice Ao130 t511.length co130] 25 (0, 0)) bk_now hb)
            have n5_ := Aside0.mk (below_step b_now hb)
            clear HO510
            clear HO513
            clear BK503
            clear BK504
            clear BK514
            clear HB
            have HO510 := n0_
            have HO513 := n1_
            have BK503 := n2_
            have BK504 := n3_
            have BK514 := n4_
            have HB := n5_
            clear n0_ n1_ n2_ n3_ n4_ n5_
            (try clear hb)
            (try clear hb2)
            (try clear hk)
            (try clear hi)
            refine hK.out _ _ ⟨(blk_cell BK514.out 0).trans rfl, (blk_cell BK514.out 1).trans rfl⟩ (fun hHeld => ?_)
            clear hK K
            refine norm_ (a' := ?_) ?_ ?_
            rotate_left
            ·show Act.put _ (some 21) _ = _
             simp only [Act.put, List.setIfInBounds_toArray, List.set_cons_zero, List.set_cons_succ, i64_w, i32_w]
             rfl
            refine one_ (i := 3) (N := some 22) #[true, true, true, true, false, false, false] rfl rfl (by kernel_rfl) (by decide) (fun K hK => ?_)
            refine value_ (w1 := ?_) (v := ?_) (by rfl) rfl ?_ ?_
            rotate_left 2
            ·go_simp
             constructor
             ·rfl
             ·rfl
            refine hK.out _ _ ⟨(blk_cell (blk_alloc BK514.out _) 0).trans rfl, (blk_cell (blk_alloc BK514.out _) 1).trans rfl⟩ (fun hHeld => ?_)
            clear hK K
            refine norm_ (a' := ?_) ?_ ?_
            rotate_left
            ·show Act.put _ (some 22) _ = _
             simp only [Act.put, List.setIfInBounds_toArray, List.set_cons_zero, List.set_cons_succ, i64_w, i32_w]
             rfl
            refine one_ (i := 4) (N := some 23) #[true, true, true, true, true, false, false] rfl rfl (by kernel_rfl) (by decide) (fun K hK => ?_)
            refine Kd.R_append_step k40 (w0 := w) w.heap.size (by rfl) (.tmp 20) (.tmp 22) 23 40 (.agg #[(.int .u8 0), (.int .u8 0), (.int .u8 0), (.int .i16 0), (.int .i32 0)]) 12 rfl Tryd.underlying23 info40 rfl (by decide) (by omega) (.slice Ao130 t511.length co130) t511 (⟨t515, t516, t517, t518, t519⟩ : S40) [.int .u8 t515, .int .u8 t516, .int .u8 t517, .int .i16 t518, .int .i32 t519] (fun _ => True) (fun _ => False) rfl rfl ?aP (fun _ hk => hk.elim) ?aF ?aO ?aB ?aS ?aL ?_
            (case aP => exact k40_mkM _ _ _ (⟨t515, t516, t517, t518, t519⟩ : S40))
            (case aB => exact b_now)
            (case aF => exact (fun _ _ => trivial))
            (case aO => exact (by (with_reducible repeat (first | apply Kd.R_alloc | apply Kd.R_drewN | apply Kd.R_drew)); exact HO513.out))
            (case aS => exact (below_size b_now))
            (case aL => have := LMc19.out; omega)
            intro v521 w134 ho hb hg hat
            rw [← Ny520.out] at ho
            have n0_ := Aside0.mk (blk_grown (g := gb503) (o := .cells #[.slice A0_0 l0_0.length c0_0, .slice A0_1 l0_1.length c0_1] 25 (0, 0)) bk_now hg (Kd.R_ne HO513.out BK503.out (by decide)))
            have n1_ := Aside0.mk (blk_grown (g := gb504) (o := .cells #[.int .i64 a1_0, .int .i64 a1_1, .int .i64 a1_2, .int .i64 a1_3] 52 (0, 0)) bk_now hg (Kd.R_ne HO513.out BK504.out (by decide)))
            have n2_ := Aside0.mk (Kd.R_over' (by (with_reducible repeat (first | apply Kd.R_alloc | apply Kd.R_drewN | apply Kd.R_drew)); exact HO510.out) (Kd.R_typed (by (with_reducible repeat (first | apply Kd.R_alloc | apply Kd.R_drewN | apply Kd.R_drew)); exact HO513.out)) (by decide) hg)
            have n3_ := Aside0.mk (blk_grown (g := gb514) (o := .cells #[.slice Ao126 t508.length co126, .slice Ao130 t511.length co130] 25 (0, 0)) bk_now hg (Kd.R_ne HO513.out BK514.out (by decide)))
            have n4_ := Aside0.mk (hb)
            have n5_ := Aside0.mk (ho)
            clear BK503
            clear BK504
            clear HO510
            clear BK514
            clear HB
            clear HO513
            have BK503 := n0_
            have BK504 := n1_
            have HO510 := n2_
            have BK514 := n3_
            have HB := n4_
            have HO522 := n5_
            clear n0_ n1_ n2_ n3_ n4_ n5_
            clear ho hb hg hat
            obtain ⟨Ao135, co135, eo135⟩ := Kd.R_slice HO522.out
            (first | subst eo135 | (injection eo135 with f1_ f2_ f3_; have f4_ := f1_.symm; have f5_ := f3_.symm; clear f1_ f2_ f3_; subst f4_; subst f5_))
            refine hK.out _ _ ⟨(blk_cell BK514.out 0).trans rfl, (blk_cell BK514.out 1).trans rfl⟩ (fun hHeld => ?_)
            clear hK K
            refine norm_ (a' := ?_) ?_ ?_
            rotate_left
            ·show Act.put _ (some 23) _ = _
             simp only [Act.put, List.setIfInBounds_toArray, List.set_cons_zero, List.set_cons_succ, i64_w, i32_w]
             rfl
            refine pure_ (i := 5) (N := some 24) (v := ?_) (a' := ?_) #[true, true, true, true, true, true, false] rfl rfl (by kernel_rfl) (fun _ _ _ h => h) (Or.inl ⟨by rfl, ?_⟩) ?_ ?_
            rotate_left
            ·intro w'
             go_simp
             with_reducible rfl
            rotate_left
            ·simp only [Act.put, List.setIfInBounds_toArray, List.set_cons_zero, List.set_cons_succ, i64_w, i32_w]
             rfl
            refine last_ (i := 6) (N := none) #[true, true, true, true, true, true, true] rfl rfl (by kernel_rfl) (by decide) (fun K hK => ?_)
            have hs136 : w134.cell? ⟨gb514, 1, none⟩ = some (.slice Ao130 t511.length co130) := (blk_cell BK514.out 1).trans rfl
            have hfs136 := blk_frozen BK514.out 1
            have hns136_0 := NB503_514.out
            have hns136_1 := NB504_514.out
            have hms136_0 := NB514_503.out
            have hms136_1 := NB514_504.out
            refine skip_ (w1 := ?_) (by rfl) rfl ?_ ?_
            rotate_left
            ·go_simp
             rfl
            refine hK.out _ _ ?_
            clear hK K
            refine done_ (by kernel_rfl) ?_
            have hcz137 := blk_all2 BK514.out
            try go_wp2_with (first | ((with_reducible refine gate_callee (f := 11) rfl ?_); refine sh_call (some 27) Tryd.func11 #[.agg #[.slice Ao126 t508.length co126, .slice Ao135 y520.length co135]] ?_; (with_reducible refine (shape_Check.calls _ _ t508 _ _ y520 t523 t524 _ ?side1 ?side2 ?side3 ?side4 ?side5 A20.out).mono ?_); (case side1 => refine (Kd.R_reads' (e := 52) (base := w.heap.size) (ok := fun k_ => k_ ≠ gb504) (n := t508.length) (c := co126) ?_).2.2; exact (by (with_reducible repeat (first | apply Kd.R_alloc | apply Kd.R_drewN | apply Kd.R_drew)); exact (Kd.R_mono (Kd.R_far (p := ⟨gb514, 1, none⟩) (Kd.R_types HO510.out BK514.out (by decide)) (fun _ hk => hk.2) (.slice Ao135 y520.length co135)) (fun _ h_ => h_.1)))); (case side2 => exact (Kd.R_reads' HO510.out).2.1); (case side3 => refine (Kd.R_reads' (e := 40) (base := w.heap.size) (ok := fun k_ => True) (n := y520.length) (c := co135) ?_).2.2; exact (by (with_reducible repeat (first | apply Kd.R_alloc | apply Kd.R_drewN | apply Kd.R_drew)); exact (Kd.R_mono (Kd.R_far (p := ⟨gb514, 1, none⟩) (Kd.R_types HO522.out BK514.out (by decide)) (fun _ hk => hk.2) (.slice Ao135 y520.length co135)) (fun _ h_ => h_.1)))); (case side4 => exact (Kd.R_reads' HO522.out).2.1); (case side5 => exact Kd.C_below HRG0.out b_now); rintro e w138 ⟨rfl, hb⟩; refine ⟨_, rfl, ?_⟩; replace HO510 := Aside0.mk (Kd.R_below (by (with_reducible repeat (first | apply Kd.R_alloc | apply Kd.R_drewN | apply Kd.R_drew)); exact (Kd.R_mono (Kd.R_far (p := ⟨gb514, 1, none⟩) (Kd.R_types HO510.out BK514.out (by decide)) (fun _ hk => hk.2) (.slice Ao135 y520.length co135)) (fun _ h_ => h_.1))) hb); replace HO522 := Aside0.mk (Kd.R_below (by (with_reducible repeat (first | apply Kd.R_alloc | apply Kd.R_drewN | apply Kd.R_drew)); exact (Kd.R_mono (Kd.R_far (p := ⟨gb514, 1, none⟩) (Kd.R_types HO522.out BK514.out (by decide)) (fun _ hk => hk.2) (.slice Ao135 y520.length co135)) (fun _ h_ => h_.1))) hb); replace BK503 := sh_kp (g := gb503) (t := 25) #[.slice A0_0 l0_0.length c0_0, .slice A0_1 l0_1.length c0_1] hb; replace BK504 := sh_kp (g := gb504) (t := 52) #[.int .i64 a1_0, .int .i64 a1_1, .int .i64 a1_2, .int .i64 a1_3] hb; replace BK514 := sh_kp (g := gb514) (t := 25) #[.slice Ao126 t508.length co126, .slice Ao135 y520.length co135] hb; replace HB := sh_b (w := w) hb; (try clear hb); (try clear hb2); (try clear hk); (try clear hi); have hcz139 := blk_all2 BK514.out; have hcz140 := blk_all2 BK503.out) | ((with_reducible refine gate_callee (f := 10) rfl ?_); refine sh_call (some 43) Tryd.func10 #[.agg #[.slice A0_0 l0_0.length c0_0, .slice A0_1 l0_1.length c0_1]] ?_; (with_reducible refine (stockadelaw04_twin.calls _ _ l0_0 _ _ l0_1 t525 t528 _ ?side1 ?side2 ?side3 ?side4 A42.out).mono ?_); (case side1 => repeat (first | exact (Kd.C_below HR0_0.out HB.out) | (with_reducible refine Kd.C_alloc ?_ _) | (with_reducible refine Kd.C_drewN ?_ _) | (with_reducible refine Kd.C_drew ?_))); (case side2 => exact HC0_0.out); (case side3 => repeat (first | exact (Kd.C_below HR0_1.out HB.out) | (with_reducible refine Kd.C_alloc ?_ _) | (with_reducible refine Kd.C_drewN ?_ _) | (with_reducible refine Kd.C_drew ?_))); (case side4 => exact HC0_1.out); rintro e w141 ⟨v526, v529, rfl, ho0, ho1, hb⟩; refine ⟨_, rfl, ?_⟩; have HO527 := Aside0.mk (Kd.R_lower (Kd.R_newB (Kd.R_new' ho0 (Kd.R_lt (by (with_reducible repeat (first | apply Kd.R_alloc | apply Kd.R_drewN | apply Kd.R_drew)); exact HO510.out))) (g := gb504) (o := .cells #[.int .i64 a1_0, .int .i64 a1_1, .int .i64 a1_2, .int .i64 a1_3] 52 (0, 0)) bk_now) (below_size b_now)); have HO530 := Aside0.mk (Kd.R_lower (Kd.R_new' ho1 (Kd.R_lt (by (with_reducible repeat (first | apply Kd.R_alloc | apply Kd.R_drewN | apply Kd.R_drew)); exact HO522.out))) (below_size b_now)); replace HO510 := Aside0.mk (Kd.R_elder' (by (with_reducible repeat (first | apply Kd.R_alloc | apply Kd.R_drewN | apply Kd.R_drew)); exact HO510.out) (Kd.R_base ho0) hb); replace HO522 := Aside0.mk (Kd.R_elder' (by (with_reducible repeat (first | apply Kd.R_alloc | apply Kd.R_drewN | apply Kd.R_drew)); exact HO522.out) (Kd.R_base ho1) hb); replace BK503 := sh_k BK503 hb; replace BK504 := sh_k BK504 hb; replace BK514 := sh_k BK514 hb; replace HB := sh_b (w := w) hb; (try clear hb); (try clear hb2); (try clear hk); (try clear hi); (try clear ho0); (try clear ho1); obtain ⟨Ao142, co142, eo142⟩ := Kd.R_slice HO527.out; subst eo142; have hcz143 := blk_all2 BK514.out; obtain ⟨Ao144, co144, eo144⟩ := Kd.R_slice HO530.out; subst eo144; have hcz145 := blk_all4 BK504.out) | ((with_reducible refine gate_builtin (b := .append) (xs := #[.tmp 45, .tmp 47]) rfl ?_); (try (refine gate_guard (by rfl) ?_; dsimp only)); at_builtin; refine Kd.R_append k52 (w0 := w) w.heap.size rfl (.tmp 45) (.tmp 47) 22 52 (.agg #[(.int .i64 0), (.int .i64 0), (.int .i64 0), (.int .i64 0)]) 32 rfl Tryd.underlying22 info52 rfl (by decide) (by omega) (.slice Ao142 t525.length co142) t525 (⟨a1_0, a1_1, a1_2, a1_3⟩ : S52) [.int .i64 a1_0, .int .i64 a1_1, .int .i64 a1_2, .int .i64 a1_3] (fun k_ => some k_ ≠ (.slice Ao126 t508.length co126 : Value).ownBlock ∧ k_ ≠ gb504) (fun _ => False) rfl (by first | (go_simp; done) | (go_simp; rfl)) ?aP (fun _ hk => hk.elim) ?aF ?aO ?aB ?aS ?aL ?_; (case aP => exact k52_mkM _ _ _ (⟨a1_0, a1_1, a1_2, a1_3⟩ : S52)); (case aB => exact b_now); (case aF => exact (fun k_ hk => ⟨Kd.fresh' (Kd.R_lt (by (with_reducible repeat (first | apply Kd.R_alloc | apply Kd.R_drewN | apply Kd.R_drew)); exact (Kd.R_mono (Kd.R_far (p := ⟨gb514, 1, none⟩) (Kd.R_far (p := ⟨gb514, 0, none⟩) (Kd.R_types HO510.out BK514.out (by decide)) (fun _ hk => hk.2) (.slice Ao142 t525.length co142)) (fun _ hk => hk.2) (.slice Ao144 t528.length co144)) (fun _ h_ => h_.1)))) k_ hk, Kd.freshB (g := gb504) (o := .cells #[.int .i64 a1_0, .int .i64 a1_1, .int .i64 a1_2, .int .i64 a1_3] 52 (0, 0)) bk_now k_ hk⟩)); (case aO => exact (by (with_reducible repeat (first | apply Kd.R_alloc | apply Kd.R_drewN | apply Kd.R_drew)); exact Kd.R_mono (Kd.R_far (p := ⟨gb514, 1, none⟩) (Kd.R_far (p := ⟨gb514, 0, none⟩) (Kd.R_types HO527.out BK514.out (by decide)) (fun _ hk => hk.2) (.slice Ao142 t525.length co142)) (fun _ hk => hk.2) (.slice Ao144 t528.length co144)) (fun _ hk => ⟨hk.1.1.2, hk.1.2⟩))); (case aS => exact (below_size b_now)); (case aL => have := LMc43.out; omega); intro v532 w146 ho hb hg hat; rw [← Ny531.out] at ho; have n0_ := Aside0.mk (blk_grown (g := gb503) (o := .cells #[.slice A0_0 l0_0.length c0_0, .slice A0_1 l0_1.length c0_1] 25 (0, 0)) bk_now hg (Kd.R_ne HO527.out BK503.out (by decide))); have n1_ := Aside0.mk (blk_grown (g := gb504) (o := .cells #[.int .i64 a1_0, .int .i64 a1_1, .int .i64 a1_2, .int .i64 a1_3] 52 (0, 0)) bk_now hg (Kd.R_away HO527.out (fun _ hk => hk.2))); have n2_ := Aside0.mk (Kd.R_after (ok := (fun k_ => k_ ≠ gb504)) (by (with_reducible repeat (first | apply Kd.R_alloc | apply Kd.R_drewN | apply Kd.R_drew)); exact Kd.R_mono (Kd.R_far (p := ⟨gb514, 1, none⟩) (Kd.R_far (p := ⟨gb514, 0, none⟩) (Kd.R_types HO510.out BK514.out (by decide)) (fun _ hk => hk.2) (.slice Ao142 t525.length co142)) (fun _ hk => hk.2) (.slice Ao144 t528.length co144)) (fun _ hk => ⟨hk.1.1, hk.1.2⟩)) hg hat); have n3_ := Aside0.mk (blk_grown (g := gb514) (o := .cells #[.slice Ao142 t525.length co142, .slice Ao144 t528.length co144] 25 (0, 0)) bk_now hg (Kd.R_ne HO527.out BK514.out (by decide))); have n4_ := Aside0.mk (Kd.R_over' (by (with_reducible repeat (first | apply Kd.R_alloc | apply Kd.R_drewN | apply Kd.R_drew)); exact (Kd.R_mono (Kd.R_far (p := ⟨gb514, 1, none⟩) (Kd.R_far (p := ⟨gb514, 0, none⟩) (Kd.R_types HO522.out BK514.out (by decide)) (fun _ hk => hk.2) (.slice Ao142 t525.length co142)) (fun _ hk => hk.2) (.slice Ao144 t528.length co144)) (fun _ h_ => h_.1))) (Kd.R_typed (by (with_reducible repeat (first | apply Kd.R_alloc | apply Kd.R_drewN | apply Kd.R_drew)); exact (Kd.R_mono (Kd.R_far (p := ⟨gb514, 1, none⟩) (Kd.R_far (p := ⟨gb514, 0, none⟩) (Kd.R_types HO527.out BK514.out (by decide)) (fun _ hk => hk.2) (.slice Ao142 t525.length co142)) (fun _ hk => hk.2) (.slice Ao144 t528.length co144)) (fun _ h_ => h_.1)))) (by decide) hg); have n5_ := Aside0.mk (Kd.R_over' (by (with_reducible repeat (first | apply Kd.R_alloc | apply Kd.R_drewN | apply Kd.R_drew)); exact (Kd.R_mono (Kd.R_far (p := ⟨gb514, 1, none⟩) (Kd.R_far (p := ⟨gb514, 0, none⟩) (Kd.R_types HO530.out BK514.out (by decide)) (fun _ hk => hk.2) (.slice Ao142 t525.length co142)) (fun _ hk => hk.2) (.slice Ao144 t528.length co144)) (fun _ h_ => h_.1))) (Kd.R_typed (by (with_reducible repeat (first | apply Kd.R_alloc | apply Kd.R_drewN | apply Kd.R_drew)); exact (Kd.R_mono (Kd.R_far (p := ⟨gb514, 1, none⟩) (Kd.R_far (p := ⟨gb514, 0, none⟩) (Kd.R_types HO527.out BK514.out (by decide)) (fun _ hk => hk.2) (.slice Ao142 t525.length co142)) (fun _ hk => hk.2) (.slice Ao144 t528.length co144)) (fun _ h_ => h_.1)))) (by decide) hg); have n6_ := Aside0.mk (hb); have n7_ := Aside0.mk (ho); clear BK503; clear BK504; clear HO510; clear BK514; clear HO522; clear HO530; clear HB; clear HO527; have BK503 := n0_; have BK504 := n1_; have HO510 := n2_; have BK514 := n3_; have HO522 := n4_; have HO530 := n5_; have HB := n6_; have HO533 := n7_; clear n0_ n1_ n2_ n3_ n4_ n5_ n6_ n7_; clear ho hb hg hat; obtain ⟨Ao147, co147, eo147⟩ := Kd.R_slice HO533.out; subst eo147; have hcz148 := blk_all2 BK514.out) | ((with_reducible refine gate_callee (f := 11) rfl ?_); refine sh_call (some 52) Tryd.func11 #[.agg #[.slice Ao147 y531.length co147, .slice Ao144 t528.length co144]] ?_; (with_reducible refine (shape_Check.calls _ _ y531 _ _ t528 t534 t535 _ ?side1 ?side2 ?side3 ?side4 ?side5 A44.out).mono ?_); (case side1 => refine (Kd.R_reads' (e := 52) (base := w.heap.size) (ok := fun k_ => (some k_ ≠ (.slice Ao126 t508.length co126 : Value).ownBlock ∧ k_ ≠ gb504)) (n := y531.length) (c := co147) ?_).2.2; exact (by (with_reducible repeat (first | apply Kd.R_alloc | apply Kd.R_drewN | apply Kd.R_drew)); exact (Kd.R_mono (Kd.R_far (p := ⟨gb514, 0, none⟩) (Kd.R_types HO533.out BK514.out (by decide)) (fun _ hk => hk.2) (.slice Ao147 y531.length co147)) (fun _ h_ => h_.1)))); (case side2 => exact (Kd.R_reads' HO533.out).2.1); (case side3 => refine (Kd.R_reads' (e := 40) (base := w.heap.size) (ok := fun k_ => (True ∧ some k_ ≠ (.slice Ao135 y520.length co135 : Value).ownBlock)) (n := t528.length) (c := co144) ?_).2.2; exact (by (with_reducible repeat (first | apply Kd.R_alloc | apply Kd.R_drewN | apply Kd.R_drew)); exact (Kd.R_mono (Kd.R_far (p := ⟨gb514, 0, none⟩) (Kd.R_types HO530.out BK514.out (by decide)) (fun _ hk => hk.2) (.slice Ao147 y531.length co147)) (fun _ h_ => h_.1)))); (case side4 => exact (Kd.R_reads' HO530.out).2.1); (case side5 => exact Kd.C_below HRG0.out b_now); rintro e w149 ⟨rfl, hb⟩; refine ⟨_, rfl, ?_⟩; replace HO510 := Aside0.mk (Kd.R_below (by (with_reducible repeat (first | apply Kd.R_alloc | apply Kd.R_drewN | apply Kd.R_drew)); exact (Kd.R_mono (Kd.R_far (p := ⟨gb514, 0, none⟩) (Kd.R_types HO510.out BK514.out (by decide)) (fun _ hk => hk.2) (.slice Ao147 y531.length co147)) (fun _ h_ => h_.1))) hb); replace HO522 := Aside0.mk (Kd.R_below (by (with_reducible repeat (first | apply Kd.R_alloc | apply Kd.R_drewN | apply Kd.R_drew)); exact (Kd.R_mono (Kd.R_far (p := ⟨gb514, 0, none⟩) (Kd.R_types HO522.out BK514.out (by decide)) (fun _ hk => hk.2) (.slice Ao147 y531.length co147)) (fun _ h_ => h_.1))) hb); replace HO530 := Aside0.mk (Kd.R_below (by (with_reducible repeat (first | apply Kd.R_alloc | apply Kd.R_drewN | apply Kd.R_drew)); exact (Kd.R_mono (Kd.R_far (p := ⟨gb514, 0, none⟩) (Kd.R_types HO530.out BK514.out (by decide)) (fun _ hk => hk.2) (.slice Ao147 y531.length co147)) (fun _ h_ => h_.1))) hb); replace HO533 := Aside0.mk (Kd.R_below (by (with_reducible repeat (first | apply Kd.R_alloc | apply Kd.R_drewN | apply Kd.R_drew)); exact (Kd.R_mono (Kd.R_far (p := ⟨gb514, 0, none⟩) (Kd.R_types HO533.out BK514.out (by decide)) (fun _ hk => hk.2) (.slice Ao147 y531.length co147)) (fun _ h_ => h_.1))) hb); replace BK503 := sh_kp (g := gb503) (t := 25) #[.slice A0_0 l0_0.length c0_0, .slice A0_1 l0_1.length c0_1] hb; replace BK504 := sh_kp (g := gb504) (t := 52) #[.int .i64 a1_0, .int .i64 a1_1, .int .i64 a1_2, .int .i64 a1_3] hb; replace BK514 := sh_kp (g := gb514) (t := 25) #[.slice Ao147 y531.length co147, .slice Ao144 t528.length co144] hb; replace HB := sh_b (w := w) hb; (try clear hb); (try clear hb2); (try clear hk); (try clear hi); have hcz150 := blk_all2 BK514.out))
            have n0_ := Aside0.mk (Kd.R_drew HO510.out)
            have n1_ := Aside0.mk (Kd.R_drew HO522.out)
            have n2_ := Aside0.mk (Kd.R_drew HO530.out)
            have n3_ := Aside0.mk (Kd.R_drew HO533.out)
            have n4_ := Aside0.mk (blk_drew BK503.out)
            have n5_ := Aside0.mk (blk_drew BK504.out)
            have n6_ := Aside0.mk (blk_drew BK514.out)
            have n7_ := Aside0.mk (below_drew1 HB.out)
            clear HO510
            clear HO522
            clear HO530
            clear HO533
            clear BK503
            clear BK504
            clear BK514
            clear HB
            have HO510 := n0_
            have HO522 := n1_
            have HO530 := n2_
            have HO533 := n3_
            have BK503 := n4_
            have BK504 := n5_
            have BK514 := n6_
            have HB := n7_
            clear n0_ n1_ n2_ n3_ n4_ n5_ n6_ n7_
            refine start_ (n := 7) (S := fun w' => True) (ds := []) #[false, false, false, false, false, false, false] (by kernel_rfl) rfl rfl trivial (fun hHeld => ?_); refine with_tabW stockadelaw04_ShapeMore.tab15 stockadelaw04_ShapeMore.bits15 (fun HT_ HW_ => ?_)
            generalize w149.drew = w151 at HO510 HO522 HO530 HO533 BK503 BK504 BK514 HB hHeld ⊢
            refine inv_at [0, 1, 2, 3, 4, 5, 6] (fun a0_ b a w' => ∃ (v537 : Value) (v545 : Value) (m4_ : Value), a = putSel a0_ b [(0, 65, .agg #[.int .i64 a1_0, .int .i64 a1_1, .int .i64 a1_2, .int .i64 a1_3]), (1, 66, v537), (2, 67, .agg #[.int .u8 t539, .int .u8 t540, .int .u8 t541, .int .i16 t542, .int .i32 t543]), (3, 68, v545), (4, 69, m4_), (5, 70, .bool false), (6, 8, .bool false)] ∧ (Kd.R k52 52 w' w.heap.size (fun k_ => some k_ ≠ (.slice Ao147 y531.length co147 : Value).ownBlock ∧ k_ ≠ gb504) (.slice Ao126 t508.length co126) t508) ∧ (Kd.R k40 40 w' w.heap.size (fun k_ => some k_ ≠ (.slice Ao144 t528.length co144 : Value).ownBlock) (.slice Ao135 y520.length co135) y520) ∧ (Kd.R k40 40 w' w.heap.size (fun k_ => some k_ ≠ (.slice Ao135 y520.length co135 : Value).ownBlock) (.slice Ao144 t528.length co144) t528) ∧ (Kd.R k52 52 w' w.heap.size (fun k_ => some k_ ≠ (.slice Ao126 t508.length co126 : Value).ownBlock ∧ k_ ≠ gb504) (.slice Ao147 y531.length co147) y531) ∧ (w'.heap[gb503]? = some (.cells #[.slice A0_0 l0_0.length c0_0, .slice A0_1 l0_1.length c0_1] 25 (0, 0))) ∧ (w'.heap[gb504]? = some (.cells #[.int .i64 a1_0, .int .i64 a1_1, .int .i64 a1_2, .int .i64 a1_3] 52 (0, 0))) ∧ (w'.heap[gb514]? = some (.cells #[.slice Ao147 y531.length co147, .slice Ao144 t528.length co144] 25 (0, 0))) ∧ (Below w.heap.size w w') ∧ (b 1 = true → Kd.R k52 52 w' w.heap.size (fun k_ => some k_ ≠ (.slice Ao126 t508.length co126 : Value).ownBlock ∧ some k_ ≠ (.slice Ao147 y531.length co147 : Value).ownBlock ∧ k_ ≠ gb504) v537 y536) ∧ (b 3 = true → Kd.R k40 40 w' w.heap.size (fun k_ => some k_ ≠ (.slice Ao135 y520.length co135 : Value).ownBlock ∧ some k_ ≠ (.slice Ao144 t528.length co144 : Value).ownBlock) v545 y544) ∧ (b 4 = true → (m4_ : Value) = .agg #[v537, v545])) HT_.out HW_.out (by kernel_rfl) (by kernel_rfl) ?_ ?_ ?_
            ·exact ⟨.bool false, .bool false, .bool false, by simp only [putSel, Bool.false_eq_true, if_false], (Kd.R_mono HO510.out (fun _ hk => by first | exact hk | grind)), (Kd.R_mono HO522.out (fun _ hk => by first | exact hk | grind)), (Kd.R_mono HO530.out (fun _ hk => by first | exact hk | grind)), (Kd.R_mono HO533.out (fun _ hk => by first | exact hk | grind)), BK503.out, BK504.out, BK514.out, HB.out, fun h_ => absurd h_ (by decide), fun h_ => absurd h_ (by decide), fun h_ => absurd h_ (by decide)⟩
            ·skip
             clear BK503 BK504 BK514 HB HO510 HO522 HO530 HO533
             refine steps_cons ?_ ?_
             ·rintro b a w' ⟨v537, v545, m4_, ha, Q_HO510, Q_HO522, Q_HO530, Q_HO533, Q_BK503, Q_BK504, Q_BK514, Q_HB, Q_HO538, Q_HO546, Q_X4_⟩ hb_ hon hoff
              refine ⟨_, rfl, fun K hK => ?_⟩
              have e3 : a.tmps[3]? = some (.pointer (some ⟨gb504, 0, none⟩)) := by rw [ha]; exact (putSel_off rfl).trans rfl
              replace ha := Aside0.mk ha
              have HO510 := Aside0.mk Q_HO510
              have HO522 := Aside0.mk Q_HO522
              have HO530 := Aside0.mk Q_HO530
              have HO533 := Aside0.mk Q_HO533
              have BK503 := Aside0.mk Q_BK503
              have BK504 := Aside0.mk Q_BK504
              have BK514 := Aside0.mk Q_BK514
              have HB := Aside0.mk Q_HB
              have hc0_ : w'.cell? ⟨gb504, 0, none⟩ = some (.int .i64 a1_0) := (blk_cell BK504.out 0).trans rfl
              have hc1_ : w'.cell? ⟨gb504, 1, none⟩ = some (.int .i64 a1_1) := (blk_cell BK504.out 1).trans rfl
              have hc2_ : w'.cell? ⟨gb504, 2, none⟩ = some (.int .i64 a1_2) := (blk_cell BK504.out 2).trans rfl
              have hc3_ : w'.cell? ⟨gb504, 3, none⟩ = some (.int .i64 a1_3) := (blk_cell BK504.out 3).trans rfl
              refine value_ (w1 := w') (v := .agg #[.int .i64 a1_0, .int .i64 a1_1, .int .i64 a1_2, .int .i64 a1_3]) (by rfl) rfl ?_ ?_
              ·go_simp
               (try simp only [i64_w])
               try rfl
              refine hK.out _ _ ⟨v537, v545, m4_, (by rw [ha.out]; exact putSel_upk 0 hb_ rfl rfl rfl), Q_HO510, Q_HO522, Q_HO530, Q_HO533, Q_BK503, Q_BK504, Q_BK514, Q_HB, fun h0_ => absurd ((hoff 1 (by kernel_rfl)).symm.trans h0_) (by decide), Q_HO546, fun h0_ => absurd ((hoff 4 (by kernel_rfl)).symm.trans h0_) (by decide)⟩
             refine steps_cons ?_ ?_
             ·rintro b a w' ⟨v537, v545, m4_, ha, Q_HO510, Q_HO522, Q_HO530, Q_HO533, Q_BK503, Q_BK504, Q_BK514, Q_HB, Q_HO538, Q_HO546, Q_X4_⟩ hb_ hon hoff
              refine ⟨_, rfl, fun K hK => ?_⟩
              have e65 : a.tmps[65]? = some (.agg #[.int .i64 a1_0, .int .i64 a1_1, .int .i64 a1_2, .int .i64 a1_3]) := by rw [ha]; exact putSel_on (e := (0, 65, .agg #[.int .i64 a1_0, .int .i64 a1_1, .int .i64 a1_2, .int .i64 a1_3])) 0 rfl rfl (hon 0 (by kernel_rfl)) rfl
              replace ha := Aside0.mk ha
              have HO510 := Aside0.mk Q_HO510
              have HO522 := Aside0.mk Q_HO522
              have HO530 := Aside0.mk Q_HO530
              have HO533 := Aside0.mk Q_HO533
              have BK503 := Aside0.mk Q_BK503
              have BK504 := Aside0.mk Q_BK504
              have BK514 := Aside0.mk Q_BK514
              have HB := Aside0.mk Q_HB
              refine Kd.R_lit_step k52 _ 52 ?hg (N := 66) ?hd (xs := ([(⟨a1_0, a1_1, a1_2, a1_3⟩ : S52)] : List (S52))) (inner := [.int .i64 a1_0, .int .i64 a1_1, .int .i64 a1_2, .int .i64 a1_3]) (ok := fun _ => True) (okp := fun _ => True) ?hr ?hp (fun _ hk => hk) trivial (Below.refl _ _) (Nat.le_refl _) (by simp) ?_; (case hd => rfl); (case hg => rfl); (case hr => first | (go_simp; done) | (go_simp; rfl)); (case hp => exact (Reps.c4 (show Kd.M k52 _ _ _ (⟨a1_0, a1_1, a1_2, a1_3⟩ : S52) [.int .i64 a1_0, .int .i64 a1_1, .int .i64 a1_2, .int .i64 a1_3] from (k52_mkM _ _ _ (⟨a1_0, a1_1, a1_2, a1_3⟩ : S52) )) (Reps.none _ _)))
              intro v537 w152 ho153 hb hg_ hnew_
              clear hg_ hnew_
              (first | rw [← Ny536.out] at ho153 | (simp only [Int.reduceToNat] at ho153; rw [← Ny536.out] at ho153))
              have n0_ := Aside0.mk (Kd.R_elder' (by (with_reducible repeat (first | apply Kd.R_alloc | apply Kd.R_drewN | apply Kd.R_drew)); exact HO510.out) (Kd.R_base ho153) hb)
              have n1_ := Aside0.mk (Kd.R_below (by (with_reducible repeat (first | apply Kd.R_alloc | apply Kd.R_drewN | apply Kd.R_drew)); exact HO522.out) hb)
              have n2_ := Aside0.mk (Kd.R_below (by (with_reducible repeat (first | apply Kd.R_alloc | apply Kd.R_drewN | apply Kd.R_drew)); exact HO530.out) hb)
              have n3_ := Aside0.mk (Kd.R_elder' (by (with_reducible repeat (first | apply Kd.R_alloc | apply Kd.R_drewN | apply Kd.R_drew)); exact HO533.out) (Kd.R_base ho153) hb)
              have n4_ := Aside0.mk (Kd.R_lower (Kd.R_newB (Kd.R_new' (Kd.R_new' ho153 (Kd.R_lt (by (with_reducible repeat (first | apply Kd.R_alloc | apply Kd.R_drewN | apply Kd.R_drew)); exact HO510.out))) (Kd.R_lt (by (with_reducible repeat (first | apply Kd.R_alloc | apply Kd.R_drewN | apply Kd.R_drew)); exact HO533.out))) (g := gb504) (o := .cells #[.int .i64 a1_0, .int .i64 a1_1, .int .i64 a1_2, .int .i64 a1_3] 52 (0, 0)) bk_now) (below_size b_now))
              have n5_ := Aside0.mk (blk_below (g := gb503) (o := .cells #[.slice A0_0 l0_0.length c0_0, .slice A0_1 l0_1.length c0_1] 25 (0, 0)) bk_now hb)
              have n6_ := Aside0.mk (blk_below (g := gb504) (o := .cells #[.int .i64 a1_0, .int .i64 a1_1, .int .i64 a1_2, .int .i64 a1_3] 52 (0, 0)) bk_now hb)
              have n7_ := Aside0.mk (blk_below (g := gb514) (o := .cells #[.slice Ao147 y531.length co147, .slice Ao144 t528.length co144] 25 (0, 0)) bk_now hb)
              have n8_ := Aside0.mk (below_step b_now hb)
              have z_HO546 := fun (h0_ : b 3 = true) => (show Kd.R k40 40 w152 w.heap.size (fun k_ => some k_ ≠ (.slice Ao135 y520.length co135 : Value).ownBlock ∧ some k_ ≠ (.slice Ao144 t528.length co144 : Value).ownBlock) v545 y544 from by first | exact (Kd.R_below (by (with_reducible repeat (first | apply Kd.R_alloc | apply Kd.R_drewN | apply Kd.R_drew)); exact (Q_HO546 h0_)) hb) | exact Kd.R_mono (Kd.R_below (by (with_reducible repeat (first | apply Kd.R_alloc | apply Kd.R_drewN | apply Kd.R_drew)); exact (Q_HO546 h0_)) hb) (fun _ h_ => by first | trivial | exact h_ | exact h_.1))
              clear HO510
              clear HO522
              clear HO530
              clear HO533
              clear BK503
              clear BK504
              clear BK514
              clear HB
              have HO510 := n0_
              have HO522 := n1_
              have HO530 := n2_
              have HO533 := n3_
              have HO538 := n4_
              have BK503 := n5_
              have BK504 := n6_
              have BK514 := n7_
              have HB := n8_
              clear n0_ n1_ n2_ n3_ n4_ n5_ n6_ n7_ n8_
              clear hb ho153
              refine hK.out _ _ ⟨v537, v545, m4_, (by rw [ha.out]; exact putSel_upk 1 hb_ rfl rfl rfl), (by (with_reducible repeat (first | apply Kd.R_alloc | apply Kd.R_drewN | apply Kd.R_drew)); exact Kd.R_mono HO510.out (fun _ hk => by first | exact ⟨hk.1.2, ⟨hk.2, hk.1.1⟩⟩ | grind)), (by (with_reducible repeat (first | apply Kd.R_alloc | apply Kd.R_drewN | apply Kd.R_drew)); exact Kd.R_mono HO522.out (fun _ hk => by first | exact hk.2 | grind)), (by (with_reducible repeat (first | apply Kd.R_alloc | apply Kd.R_drewN | apply Kd.R_drew)); exact Kd.R_mono HO530.out (fun _ hk => by first | exact hk.2 | grind)), (by (with_reducible repeat (first | apply Kd.R_alloc | apply Kd.R_drewN | apply Kd.R_drew)); exact Kd.R_mono HO533.out (fun _ hk => by first | exact ⟨hk.1.1, ⟨hk.2, hk.1.2⟩⟩ | grind)), bk_now, bk_now, bk_now, b_now, fun _ => (by (with_reducible repeat (first | apply Kd.R_alloc | apply Kd.R_drewN | apply Kd.R_drew)); exact Kd.R_mono HO538.out (fun _ hk => by first | exact ⟨hk.1.1.2, ⟨hk.1.2, hk.2⟩⟩ | grind)), z_HO546, fun h0_ => absurd ((hoff 4 (by kernel_rfl)).symm.trans h0_) (by decide)⟩
             refine steps_cons ?_ ?_
             ·rintro b a w' ⟨v537, v545, m4_, ha, Q_HO510, Q_HO522, Q_HO530, Q_HO533, Q_BK503, Q_BK504, Q_BK514, Q_HB, Q_HO538, Q_HO546, Q_X4_⟩ hb_ hon hoff
              refine ⟨_, rfl, fun K hK => ?_⟩
              replace ha := Aside0.mk ha
              have HO510 := Aside0.mk Q_HO510
              have HO522 := Aside0.mk Q_HO522
              have HO530 := Aside0.mk Q_HO530
              have HO533 := Aside0.mk Q_HO533
              have BK503 := Aside0.mk Q_BK503
              have BK504 := Aside0.mk Q_BK504
              have BK514 := Aside0.mk Q_BK514
              have HB := Aside0.mk Q_HB
              refine goes_ Tryd.func24 (by kernel_rfl) rfl #[] (by rfl) rfl rfl (by first | (simp only [List.map_toArray, List.map_cons, List.map_nil, Act.eval, Array.getD_eq_getD_getElem?, Option.getD_some]; done) | (simp only [List.map_toArray, List.map_cons, List.map_nil, Act.eval, Array.getD_eq_getD_getElem?, Option.getD_some]; rfl)) ?_
              with_reducible refine (stockadelaw04_exit.calls  t539 t540 t541 t542 t543 _ A76.out).mono ?_
              rintro e w152 ⟨rfl, hb⟩
              refine ⟨_, rfl, ?_⟩
              have n0_ := Aside0.mk (Kd.R_below (by (with_reducible repeat (first | apply Kd.R_alloc | apply Kd.R_drewN | apply Kd.R_drew)); exact HO510.out) hb)
              have n1_ := Aside0.mk (Kd.R_below (by (with_reducible repeat (first | apply Kd.R_alloc | apply Kd.R_drewN | apply Kd.R_drew)); exact HO522.out) hb)
              have n2_ := Aside0.mk (Kd.R_below (by (with_reducible repeat (first | apply Kd.R_alloc | apply Kd.R_drewN | apply Kd.R_drew)); exact HO530.out) hb)
              have n3_ := Aside0.mk (Kd.R_below (by (with_reducible repeat (first | apply Kd.R_alloc | apply Kd.R_drewN | apply Kd.R_drew)); exact HO533.out) hb)
              have n4_ := Aside0.mk (blk_below (g := gb503) (o := .cells #[.slice A0_0 l0_0.length c0_0, .slice A0_1 l0_1.length c0_1] 25 (0, 0)) bk_now hb)
              have n5_ := Aside0.mk (blk_below (g := gb504) (o := .cells #[.int .i64 a1_0, .int .i64 a1_1, .int .i64 a1_2, .int .i64 a1_3] 52 (0, 0)) bk_now hb)
              have n6_ := Aside0.mk (blk_below (g := gb514) (o := .cells #[.slice Ao147 y531.length co147, .slice Ao144 t528.length co144] 25 (0, 0)) bk_now hb)
              have n7_ := Aside0.mk (below_step b_now hb)
              have z_HO538 := fun (h0_ : b 1 = true) => (show Kd.R k52 52 w152 w.heap.size (fun k_ => some k_ ≠ (.slice Ao126 t508.length co126 : Value).ownBlock ∧ some k_ ≠ (.slice Ao147 y531.length co147 : Value).ownBlock ∧ k_ ≠ gb504) v537 y536 from by first | exact (Kd.R_below (by (with_reducible repeat (first | apply Kd.R_alloc | apply Kd.R_drewN | apply Kd.R_drew)); exact (Q_HO538 h0_)) hb) | exact Kd.R_mono (Kd.R_below (by (with_reducible repeat (first | apply Kd.R_alloc | apply Kd.R_drewN | apply Kd.R_drew)); exact (Q_HO538 h0_)) hb) (fun _ h_ => by first | trivial | exact h_ | exact h_.1))
              clear HO510
              clear HO522
              clear HO530
              clear HO533
              clear BK503
              clear BK504
              clear BK514
              clear HB
              have HO510 := n0_
              have HO522 := n1_
              have HO530 := n2_
              have HO533 := n3_
              have BK503 := n4_
              have BK504 := n5_
              have BK514 := n6_
              have HB := n7_
              clear n0_ n1_ n2_ n3_ n4_ n5_ n6_ n7_
              (try clear hb)
              (try clear hb2)
              (try clear hk)
              (try clear hi)
              refine hK.out _ _ ⟨v537, v545, m4_, (by rw [ha.out]; exact putSel_upk 2 hb_ rfl rfl rfl), (by (with_reducible repeat (first | apply Kd.R_alloc | apply Kd.R_drewN | apply Kd.R_drew)); exact Kd.R_mono HO510.out (fun _ hk => by first | exact ⟨hk.2, hk.1⟩ | exact hk | exact hk.1 | exact hk.2)), (by (with_reducible repeat (first | apply Kd.R_alloc | apply Kd.R_drewN | apply Kd.R_drew)); exact Kd.R_mono HO522.out (fun _ hk => by first | exact hk.2 | grind)), (by (with_reducible repeat (first | apply Kd.R_alloc | apply Kd.R_drewN | apply Kd.R_drew)); exact Kd.R_mono HO530.out (fun _ hk => by first | exact hk.2 | grind)), (by (with_reducible repeat (first | apply Kd.R_alloc | apply Kd.R_drewN | apply Kd.R_drew)); (first | exact HO533.out | exact Kd.R_mono HO533.out (fun _ hk => by grind))), bk_now, bk_now, bk_now, b_now, z_HO538, fun h0_ => absurd ((hoff 3 (by kernel_rfl)).symm.trans h0_) (by decide), fun h0_ => absurd ((hoff 4 (by kernel_rfl)).symm.trans h0_) (by decide)⟩
             refine steps_cons ?_ ?_
             ·rintro b a w' ⟨v537, v545, m4_, ha, Q_HO510, Q_HO522, Q_HO530, Q_HO533, Q_BK503, Q_BK504, Q_BK514, Q_HB, Q_HO538, Q_HO546, Q_X4_⟩ hb_ hon hoff
              refine ⟨_, rfl, fun K hK => ?_⟩
              have e67 : a.tmps[67]? = some (.agg #[.int .u8 t539, .int .u8 t540, .int .u8 t541, .int .i16 t542, .int .i32 t543]) := by rw [ha]; exact putSel_on (e := (2, 67, .agg #[.int .u8 t539, .int .u8 t540, .int .u8 t541, .int .i16 t542, .int .i32 t543])) 2 rfl rfl (hon 2 (by kernel_rfl)) rfl
              replace ha := Aside0.mk ha
              have HO510 := Aside0.mk Q_HO510
              have HO522 := Aside0.mk Q_HO522
              have HO530 := Aside0.mk Q_HO530
              have HO533 := Aside0.mk Q_HO533
              have BK503 := Aside0.mk Q_BK503
              have BK504 := Aside0.mk Q_BK504
              have BK514 := Aside0.mk Q_BK514
              have HB := Aside0.mk Q_HB
              refine Kd.R_lit_step k40 _ 40 ?hg (N := 68) ?hd (xs := ([(⟨t539, t540, t541, t542, t543⟩ : S40)] : List (S40))) (inner := [.int .u8 t539, .int .u8 t540, .int .u8 t541, .int .i16 t542, .int .i32 t543]) (ok := fun _ => True) (okp := fun _ => True) ?hr ?hp (fun _ hk => hk) trivial (Below.refl _ _) (Nat.le_refl _) (by simp) ?_; (case hd => rfl); (case hg => rfl); (case hr => first | (go_simp; done) | (go_simp; rfl)); (case hp => exact (Reps.c5 (show Kd.M k40 _ _ _ (⟨t539, t540, t541, t542, t543⟩ : S40) [.int .u8 t539, .int .u8 t540, .int .u8 t541, .int .i16 t542, .int .i32 t543] from (k40_mkM _ _ _ (⟨t539, t540, t541, t542, t543⟩ : S40) )) (Reps.none _ _)))
              intro v545 w154 ho155 hb hg_ hnew_
              clear hg_ hnew_
              (first | rw [← Ny544.out] at ho155 | (simp only [Int.reduceToNat] at ho155; rw [← Ny544.out] at ho155))
              have n0_ := Aside0.mk (Kd.R_below (by (with_reducible repeat (first | apply Kd.R_alloc | apply Kd.R_drewN | apply Kd.R_drew)); exact HO510.out) hb)
              have n1_ := Aside0.mk (Kd.R_elder' (by (with_reducible repeat (first | apply Kd.R_alloc | apply Kd.R_drewN | apply Kd.R_drew)); exact HO522.out) (Kd.R_base ho155) hb)
              have n2_ := Aside0.mk (Kd.R_elder' (by (with_reducible repeat (first | apply Kd.R_alloc | apply Kd.R_drewN | apply Kd.R_drew)); exact HO530.out) (Kd.R_base ho155) hb)
              have n3_ := Aside0.mk (Kd.R_below (by (with_reducible repeat (first | apply Kd.R_alloc | apply Kd.R_drewN | apply Kd.R_drew)); exact HO533.out) hb)
              have n4_ := Aside0.mk (Kd.R_lower (Kd.R_new' (Kd.R_new' ho155 (Kd.R_lt (by (with_reducible repeat (first | apply Kd.R_alloc | apply Kd.R_drewN | apply Kd.R_drew)); exact HO522.out))) (Kd.R_lt (by (with_reducible repeat (first | apply Kd.R_alloc | apply Kd.R_drewN | apply Kd.R_drew)); exact HO530.out))) (below_size b_now))
              have n5_ := Aside0.mk (blk_below (g := gb503) (o := .cells #[.slice A0_0 l0_0.length c0_0, .slice A0_1 l0_1.length c0_1] 25 (0, 0)) bk_now hb)
              have n6_ := Aside0.mk (blk_below (g := gb504) (o := .cells #[.int .i64 a1_0, .int .i64 a1_1, .int .i64 a1_2, .int .i64 a1_3] 52 (0, 0)) bk_now hb)
              have n7_ := Aside0.mk (blk_below (g := gb514) (o := .cells #[.slice Ao147 y531.length co147, .slice Ao144 t528.length co144] 25 (0, 0)) bk_now hb)
              have n8_ := Aside0.mk (below_step b_now hb)
              have z_HO538 := fun (h0_ : b 1 = true) => (show Kd.R k52 52 w154 w.heap.size (fun k_ => some k_ ≠ (.slice Ao126 t508.length co126 : Value).ownBlock ∧ some k_ ≠ (.slice Ao147 y531.length co147 : Value).ownBlock ∧ k_ ≠ gb504) v537 y536 from by first | exact (Kd.R_below (by (with_reducible repeat (first | apply Kd.R_alloc | apply Kd.R_drewN | apply Kd.R_drew)); exact (Q_HO538 h0_)) hb) | exact Kd.R_mono (Kd.R_below (by (with_reducible repeat (first | apply Kd.R_alloc | apply Kd.R_drewN | apply Kd.R_drew)); exact (Q_HO538 h0_)) hb) (fun _ h_ => by first | trivial | exact h_ | exact h_.1))
              clear HO510
              clear HO522
              clear HO530
              clear HO533
              clear BK503
              clear BK504
              clear BK514
              clear HB
              have HO510 := n0_
              have HO522 := n1_
              have HO530 := n2_
              have HO533 := n3_
              have HO546 := n4_
              have BK503 := n5_
              have BK504 := n6_
              have BK514 := n7_
              have HB := n8_
              clear n0_ n1_ n2_ n3_ n4_ n5_ n6_ n7_ n8_
              clear hb ho155
              refine hK.out _ _ ⟨v537, v545, m4_, (by rw [ha.out]; exact putSel_upk 3 hb_ rfl rfl rfl), (by (with_reducible repeat (first | apply Kd.R_alloc | apply Kd.R_drewN | apply Kd.R_drew)); (first | exact HO510.out | exact Kd.R_mono HO510.out (fun _ hk => by grind))), (by (with_reducible repeat (first | apply Kd.R_alloc | apply Kd.R_drewN | apply Kd.R_drew)); (first | exact HO522.out | exact Kd.R_mono HO522.out (fun _ hk => by grind))), (by (with_reducible repeat (first | apply Kd.R_alloc | apply Kd.R_drewN | apply Kd.R_drew)); (first | exact HO530.out | exact Kd.R_mono HO530.out (fun _ hk => by grind))), (by (with_reducible repeat (first | apply Kd.R_alloc | apply Kd.R_drewN | apply Kd.R_drew)); (first | exact HO533.out | exact Kd.R_mono HO533.out (fun _ hk => by grind))), bk_now, bk_now, bk_now, b_now, z_HO538, fun _ => (by (with_reducible repeat (first | apply Kd.R_alloc | apply Kd.R_drewN | apply Kd.R_drew)); exact Kd.R_mono HO546.out (fun _ hk => by first | exact ⟨hk.1.2, hk.2⟩ | grind)), fun h0_ => absurd ((hoff 4 (by kernel_rfl)).symm.trans h0_) (by decide)⟩
             refine steps_cons ?_ ?_
             ·rintro b a w' ⟨v537, v545, m4_, ha, Q_HO510, Q_HO522, Q_HO530, Q_HO533, Q_BK503, Q_BK504, Q_BK514, Q_HB, Q_HO538, Q_HO546, Q_X4_⟩ hb_ hon hoff
              refine ⟨_, rfl, fun K hK => ?_⟩
              have e66 : a.tmps[66]? = some (v537) := by rw [ha]; exact putSel_on (e := (1, 66, v537)) 1 rfl rfl (hon 1 (by kernel_rfl)) rfl
              have e68 : a.tmps[68]? = some (v545) := by rw [ha]; exact putSel_on (e := (3, 68, v545)) 3 rfl rfl (hon 3 (by kernel_rfl)) rfl
              replace ha := Aside0.mk ha
              have HO510 := Aside0.mk Q_HO510
              have HO522 := Aside0.mk Q_HO522
              have HO530 := Aside0.mk Q_HO530
              have HO533 := Aside0.mk Q_HO533
              have BK503 := Aside0.mk Q_BK503
              have BK504 := Aside0.mk Q_BK504
              have BK514 := Aside0.mk Q_BK514
              have HB := Aside0.mk Q_HB
              have HO538 := Aside0.mk (Q_HO538 (hon 1 (by kernel_rfl)))
              have HO546 := Aside0.mk (Q_HO546 (hon 3 (by kernel_rfl)))
              obtain ⟨Ao4_0, co4_0, eo_⟩ := Kd.R_slice HO538.out
              subst eo_
              obtain ⟨Ao4_1, co4_1, eo_⟩ := Kd.R_slice HO546.out
              subst eo_
              refine value_ (w1 := w') (v := .agg #[.slice Ao4_0 y536.length co4_0, .slice Ao4_1 y544.length co4_1]) (by rfl) rfl ?_ ?_
              ·go_simp
               (try simp only [i64_w])
               try rfl
              refine hK.out _ _ ⟨.slice Ao4_0 y536.length co4_0, .slice Ao4_1 y544.length co4_1, (.agg #[.slice Ao4_0 y536.length co4_0, .slice Ao4_1 y544.length co4_1]), (by rw [ha.out]; exact putSel_upk 4 hb_ rfl rfl rfl), Q_HO510, Q_HO522, Q_HO530, Q_HO533, Q_BK503, Q_BK504, Q_BK514, Q_HB, Q_HO538, Q_HO546, fun _ => rfl⟩
             refine steps_cons ?_ ?_
             ·rintro b a w' ⟨v537, v545, m4_, ha, Q_HO510, Q_HO522, Q_HO530, Q_HO533, Q_BK503, Q_BK504, Q_BK514, Q_HB, Q_HO538, Q_HO546, Q_X4_⟩ hb_ hon hoff
              refine ⟨_, rfl, fun K hK => ?_⟩
              have e69 : a.tmps[69]? = some (m4_) := by rw [ha]; exact putSel_on (e := (4, 69, m4_)) 4 rfl rfl (hon 4 (by kernel_rfl)) rfl
              rw [Q_X4_ (hon 4 (by kernel_rfl))] at e69
              replace ha := Aside0.mk ha
              have HO510 := Aside0.mk Q_HO510
              have HO522 := Aside0.mk Q_HO522
              have HO530 := Aside0.mk Q_HO530
              have HO533 := Aside0.mk Q_HO533
              have BK503 := Aside0.mk Q_BK503
              have BK504 := Aside0.mk Q_BK504
              have BK514 := Aside0.mk Q_BK514
              have HB := Aside0.mk Q_HB
              have HO538 := Aside0.mk (Q_HO538 (hon 1 (by kernel_rfl)))
              have HO546 := Aside0.mk (Q_HO546 (hon 3 (by kernel_rfl)))
              obtain ⟨Ao160, co160, eo160⟩ := Kd.R_slice HO546.out
              (first | subst eo160 | (injection eo160 with f1_ f2_ f3_; have f4_ := f1_.symm; have f5_ := f3_.symm; clear f1_ f2_ f3_; subst f4_; subst f5_))
              obtain ⟨Ao161, co161, eo161⟩ := Kd.R_slice HO538.out
              (first | subst eo161 | (injection eo161 with f1_ f2_ f3_; have f4_ := f1_.symm; have f5_ := f3_.symm; clear f1_ f2_ f3_; subst f4_; subst f5_))
              refine goes_ Tryd.func21 (by kernel_rfl) rfl #[.agg #[.slice Ao161 y536.length co161, .slice Ao160 y544.length co160]] (by rfl) rfl rfl (by first | (simp only [List.map_toArray, List.map_cons, List.map_nil, Act.eval, Array.getD_eq_getD_getElem?, Option.getD_some, e69]; done) | (simp only [List.map_toArray, List.map_cons, List.map_nil, Act.eval, Array.getD_eq_getD_getElem?, Option.getD_some, e69]; rfl)) ?_
              with_reducible refine (stockadelaw04_right.calls _ _ y536 _ _ y544 false _ ?side1 ?side2 ?side3 ?side4 ?side5 A77.out).mono ?_
              (case side1 => repeat (first | exact (Kd.R_reads' HO538.out).2.2 | (with_reducible refine Kd.C_alloc ?_ _) | (with_reducible refine Kd.C_drewN ?_ _) | (with_reducible refine Kd.C_drew ?_)))
              (case side2 => exact (Kd.R_reads' HO538.out).2.1)
              (case side3 => repeat (first | exact (Kd.R_reads' HO546.out).2.2 | (with_reducible refine Kd.C_alloc ?_ _) | (with_reducible refine Kd.C_drewN ?_ _) | (with_reducible refine Kd.C_drew ?_)))
              (case side4 => exact (Kd.R_reads' HO546.out).2.1)
              (case side5 => repeat (first | exact (Kd.C_below HRG0.out HB.out) | (with_reducible refine Kd.C_alloc ?_ _) | (with_reducible refine Kd.C_drewN ?_ _) | (with_reducible refine Kd.C_drew ?_)))
              rintro e w162 ⟨rfl, hb⟩
              refine ⟨_, rfl, ?_⟩
              have n0_ := Aside0.mk (Kd.R_below (by (with_reducible repeat (first | apply Kd.R_alloc | apply Kd.R_drewN | apply Kd.R_drew)); exact HO510.out) hb)
              have n1_ := Aside0.mk (Kd.R_below (by (with_reducible repeat (first | apply Kd.R_alloc | apply Kd.R_drewN | apply Kd.R_drew)); exact HO522.out) hb)
              have n2_ := Aside0.mk (Kd.R_below (by (with_reducible repeat (first | apply Kd.R_alloc | apply Kd.R_drewN | apply Kd.R_drew)); exact HO530.out) hb)
              have n3_ := Aside0.mk (Kd.R_below (by (with_reducible repeat (first | apply Kd.R_alloc | apply Kd.R_drewN | apply Kd.R_drew)); exact HO533.out) hb)
              have n4_ := Aside0.mk (Kd.R_below (by (with_reducible repeat (first | apply Kd.R_alloc | apply Kd.R_drewN | apply Kd.R_drew)); exact HO538.out) hb)
              have n5_ := Aside0.mk (Kd.R_below (by (with_reducible repeat (first | apply Kd.R_alloc | apply Kd.R_drewN | apply Kd.R_drew)); exact HO546.out) hb)
              have n6_ := Aside0.mk (blk_below (g := gb503) (o := .cells #[.slice A0_0 l0_0.length c0_0, .slice A0_1 l0_1.length c0_1] 25 (0, 0)) bk_now hb)
              have n7_ := Aside0.mk (blk_below (g := gb504) (o := .cells #[.int .i64 a1_0, .int .i64 a1_1, .int .i64 a1_2, .int .i64 a1_3] 52 (0, 0)) bk_now hb)
              have n8_ := Aside0.mk (blk_below (g := gb514) (o := .cells #[.slice Ao147 y531.length co147, .slice Ao144 t528.length co144] 25 (0, 0)) bk_now hb)
              have n9_ := Aside0.mk (below_step b_now hb)
              clear HO510
              clear HO522
              clear HO530
              clear HO533
              clear HO538
              clear HO546
              clear BK503
              clear BK504
              clear BK514
              clear HB
              have HO510 := n0_
              have HO522 := n1_
              have HO530 := n2_
              have HO533 := n3_
              have HO538 := n4_
              have HO546 := n5_
              have BK503 := n6_
              have BK504 := n7_
              have BK514 := n8_
              have HB := n9_
              clear n0_ n1_ n2_ n3_ n4_ n5_ n6_ n7_ n8_ n9_
              (try clear hb)
              (try clear hb2)
              (try clear hk)
              (try clear hi)
              refine hK.out _ _ ⟨.slice Ao161 y536.length co161, .slice Ao160 y544.length co160, m4_, (by rw [ha.out]; exact putSel_upk 5 hb_ rfl rfl rfl), (by (with_reducible repeat (first | apply Kd.R_alloc | apply Kd.R_drewN | apply Kd.R_drew)); (first | exact HO510.out | exact Kd.R_mono HO510.out (fun _ hk => by grind))), (by (with_reducible repeat (first | apply Kd.R_alloc | apply Kd.R_drewN | apply Kd.R_drew)); (first | exact HO522.out | exact Kd.R_mono HO522.out (fun _ hk => by grind))), (by (with_reducible repeat (first | apply Kd.R_alloc | apply Kd.R_drewN | apply Kd.R_drew)); (first | exact HO530.out | exact Kd.R_mono HO530.out (fun _ hk => by grind))), (by (with_reducible repeat (first | apply Kd.R_alloc | apply Kd.R_drewN | apply Kd.R_drew)); (first | exact HO533.out | exact Kd.R_mono HO533.out (fun _ hk => by grind))), bk_now, bk_now, bk_now, b_now, fun _ => (by (with_reducible repeat (first | apply Kd.R_alloc | apply Kd.R_drewN | apply Kd.R_drew)); (first | exact HO538.out | exact Kd.R_mono HO538.out (fun _ hk => by grind))), fun _ => (by (with_reducible repeat (first | apply Kd.R_alloc | apply Kd.R_drewN | apply Kd.R_drew)); (first | exact HO546.out | exact Kd.R_mono HO546.out (fun _ hk => by grind))), Q_X4_⟩
             refine steps_cons ?_ ?_
             ·rintro b a w' ⟨v537, v545, m4_, ha, Q_HO510, Q_HO522, Q_HO530, Q_HO533, Q_BK503, Q_BK504, Q_BK514, Q_HB, Q_HO538, Q_HO546, Q_X4_⟩ hb_ hon hoff
              refine ⟨_, rfl, fun K hK => ?_⟩
              have e70 : a.tmps[70]? = some (.bool false) := by rw [ha]; exact putSel_on (e := (5, 70, .bool false)) 5 rfl rfl (hon 5 (by kernel_rfl)) rfl
              replace ha := Aside0.mk ha
              have HO510 := Aside0.mk Q_HO510
              have HO522 := Aside0.mk Q_HO522
              have HO530 := Aside0.mk Q_HO530
              have HO533 := Aside0.mk Q_HO533
              have BK503 := Aside0.mk Q_BK503
              have BK504 := Aside0.mk Q_BK504
              have BK514 := Aside0.mk Q_BK514
              have HB := Aside0.mk Q_HB
              have HO538 := Aside0.mk (Q_HO538 (hon 1 (by kernel_rfl)))
              have HO546 := Aside0.mk (Q_HO546 (hon 3 (by kernel_rfl)))
              refine value_ (w1 := w') (v := .bool false) (by rfl) rfl ?_ ?_
              ·go_simp
               (try simp only [i64_w])
               try rfl
              refine hK.out _ _ ⟨v537, v545, m4_, (by rw [ha.out]; exact putSel_upk 6 hb_ rfl rfl rfl), Q_HO510, Q_HO522, Q_HO530, Q_HO533, Q_BK503, Q_BK504, Q_BK514, Q_HB, Q_HO538, Q_HO546, Q_X4_⟩
             exact steps_nil
            rintro b a w160 hall ⟨v537, v545, m4_, ha, Q_HO510, Q_HO522, Q_HO530, Q_HO533, Q_BK503, Q_BK504, Q_BK514, Q_HB, Q_HO538, Q_HO546, Q_X4_⟩
            clear BK503 BK504 BK514 HB HO510 HO522 HO530 HO533
            have hb0_ := hall 0 (by kernel_rfl)
            have hb1_ := hall 1 (by kernel_rfl)
            have hb2_ := hall 2 (by kernel_rfl)
            have hb3_ := hall 3 (by kernel_rfl)
            have hb4_ := hall 4 (by kernel_rfl)
            have hb5_ := hall 5 (by kernel_rfl)
            have hb6_ := hall 6 (by kernel_rfl)
            subst ha
            obtain rfl := Q_X4_ hb4_
            simp only [putSel, hb0_, hb1_, hb2_, hb3_, hb4_, hb5_, hb6_, if_true, Act.put, List.setIfInBounds_toArray, List.set_cons_zero, List.set_cons_succ]
            have HO510 := Aside0.mk Q_HO510
            clear Q_HO510
            have HO522 := Aside0.mk Q_HO522
            clear Q_HO522
            have HO530 := Aside0.mk Q_HO530
            clear Q_HO530
            have HO533 := Aside0.mk Q_HO533
            clear Q_HO533
            have BK503 := Aside0.mk Q_BK503
            clear Q_BK503
            have BK504 := Aside0.mk Q_BK504
            clear Q_BK504
            have BK514 := Aside0.mk Q_BK514
            clear Q_BK514
            have HB := Aside0.mk Q_HB
            clear Q_HB
            have HO538 := Aside0.mk (Q_HO538 hb1_)
            clear Q_HO538
            have HO546 := Aside0.mk (Q_HO546 hb3_)
            clear Q_HO546
            clear hall hb0_ hb1_ hb2_ hb3_ hb4_ hb5_ hb6_
            obtain ⟨Ao161, co161, eo161⟩ := Kd.R_slice HO546.out
            (first | subst eo161 | (injection eo161 with f1_ f2_ f3_; have f4_ := f1_.symm; have f5_ := f3_.symm; clear f1_ f2_ f3_; subst f4_; subst f5_))
            obtain ⟨Ao162, co162, eo162⟩ := Kd.R_slice HO538.out
            (first | subst eo162 | (injection eo162 with f1_ f2_ f3_; have f4_ := f1_.symm; have f5_ := f3_.symm; clear f1_ f2_ f3_; subst f4_; subst f5_))
            have hcz163 := blk_all2 BK503.out
            try go_wp2
            go_ret
            exact ⟨ret_now, b_now⟩
           ·rw [if_neg c121] at H
            have c121b0 : (t535 == 26) = false := beq_eq_false_iff_ne.mpr c121
            have c121b1 : (t535 != 26) = true := bne_iff_ne.mpr c121
            obtain rfl := Option.some.inj H
            exact absurd HRT.out (by simp)
         ·rw [if_neg c78] at H
          have c78b0 : (t547 == (t535 == 0)) = false := by simpa using c78
          (try (have c78b1 : decide (t547 = (t535 == 0)) = false := by simpa using c78))
          (try (have c78b2 : (t547 == (t535 == 0)) = false := by simpa using c78))
          (try (have c78b3 : ¬ (t547 = (t535 == 0)) := by simpa using c78))
          clear c78
          obtain rfl := Option.some.inj H
          exact absurd HRT.out (by simp)
       ·rw [if_neg c43] at H
        exact absurd H (by simp)
      ·rw [if_neg c41] at H
       have c41b0 : (t524 == 0) = false := beq_eq_false_iff_ne.mpr c41
       have c41b1 : (t524 != 0) = true := bne_iff_ne.mpr c41
       obtain rfl := Option.some.inj H
       exact absurd HRT.out (by simp)
    ·rw [if_neg c19] at H
     exact absurd H (by simp)

end Go.Proofs.YtdhiibkcoolbeaaDoor.P
