/- Made by this session's driver over the kit's printer: for each Go function a Lean function with the same answers, and a proof that the Go call comes to these answers; no conditions but the ones each theorem names. -/
import Derived.Test.YtdhiibkcoolbeaaDoorPx0
import Derived.Test.YtdhiibkcoolbeaaDoorPx4
import Derived.Test.YtdhiibkcoolbeaaDoorPx16
import Derived.Test.YtdhiibkcoolbeaaDoorPx19
import Derived.Test.YtdhiibkcoolbeaaDoorPxXXCk
namespace Go.Proofs.YtdhiibkcoolbeaaDoor.P
open Go.RowKit Go.Proofs.YtdhiibkcoolbeaaDoorW.PrintWords Go.Proofs.YtdhiibkcoolbeaaDoorW.PrintLast Go.Proofs.YtdhiibkcoolbeaaDoorW.PrintMore
attribute [local go_sem] max2_int min2_int max_two min_two max_three min_three max_four min_four   -- for this text's walks alone
set_option linter.unusedVariables false
set_option linter.unusedSimpArgs false

/-! ### stockadelaw04_ShapeAhead: function 6 -/
mutual
def stockadelaw04_ShapeAhead.j0 : Nat → List (S40) → Int → Int → Bool → List (S52) → List (S40) → Option (Bool)
 | 0, _, _, _, _, _, _ => none
 | k + 1, x1, x5, x6, x43, x461000, x461001 => if x43 = true then (some true) else (if x5 < 0 then (some false) else (if x6 = 26 then (if x5 < (x461000.length : Int) then ((stockadelaw04_exit.f).bind fun bt464 => ((stockadelaw04_right.f x461000 (([(⟨bt464.1, bt464.2.1, bt464.2.2.1, bt464.2.2.2.1, bt464.2.2.2.2⟩ : S40)] : List (S40)))).bind fun t472 => (stockadelaw04_ShapeAhead.j1 k x1 x5 x6 (!t472) x461000 x461001))) else (stockadelaw04_ShapeAhead.j1 k x1 x5 x6 false x461000 x461001)) else (stockadelaw04_ShapeAhead.j1 k x1 x5 x6 false x461000 x461001)))
def stockadelaw04_ShapeAhead.j1 : Nat → List (S40) → Int → Int → Bool → List (S52) → List (S40) → Option (Bool)
 | 0, _, _, _, _, _, _ => none
 | k + 1, x1, x5, x6, x63, x461000, x461001 => if x63 = true then ((stockadelaw04_exit.f).bind fun bt473 => ((some (([(⟨bt473.1, bt473.2.1, bt473.2.2.1, bt473.2.2.2.1, bt473.2.2.2.2⟩ : S40)] : List (S40)) : List (S40))).bind fun y478 => (if 0 ≤ (mn (x1.length : Int) 20) then (if (mn (x1.length : Int) 20) ≤ (x1.length : Int) then ((some (x1.take ((mn (x1.length : Int) 20) : Int).toNat : List (S40))).bind fun y481 => (if y478.length + y481.length < 11728124029610 then ((shape_Check.f x461000 (y478 ++ y481)).bind fun bt488 => (if bt488.1 = x5 then (some (bt488.2 == x6)) else (some false))) else (none))) else (none)) else (none)))) else (if x5 ≥ (x461001.length : Int) then (some false) else ((stockadelaw04_twin.f x461000 x461001).bind fun bt490 => (stockadelaw04_ShapeAhead.l0 k x1 x5 x6 (wrap64 (x5 + 2)) bt490.1 bt490.2)))
def stockadelaw04_ShapeAhead.l0 : Nat → List (S40) → Int → Int → Int → List (S52) → List (S40) → Option (Bool)
 | 0, _, _, _, _, _, _ => none
 | k + 1, x1, x5, x6, x10, x497000, x497001 => if x10 < (x497001.length : Int) then (if (wrap64 ((wrap64 (x10 - x5)) - 2)) < (x1.length : Int) then (if 0 ≤ (wrap64 ((wrap64 (x10 - x5)) - 2)) then (if 0 ≤ x10 then (stockadelaw04_ShapeAhead.l0 k x1 x5 x6 (wrap64 (x10 + 1)) x497000 (x497001.set (x10 : Int).toNat (⟨(rd_T40 x1 (wrap64 ((wrap64 (x10 - x5)) - 2))).f0, (rd_T40 x1 (wrap64 ((wrap64 (x10 - x5)) - 2))).f1, (rd_T40 x1 (wrap64 ((wrap64 (x10 - x5)) - 2))).f2, (rd_T40 x1 (wrap64 ((wrap64 (x10 - x5)) - 2))).f3, (rd_T40 x1 (wrap64 ((wrap64 (x10 - x5)) - 2))).f4⟩ : S40))) else (none)) else (none)) else ((shape_Check.f x497000 x497001).bind fun bt499 => (if bt499.1 = x5 then (some (bt499.2 == x6)) else (some false)))) else ((shape_Check.f x497000 x497001).bind fun bt501 => (if bt501.1 = x5 then (some (bt501.2 == x6)) else (some false)))
end
def stockadelaw04_ShapeAhead.f (k : Nat) (l0_0 : List (S52)) (l0_1 : List (S40)) (l1 : List (S40)) : Option (Bool) := (stockadelaw04_awake.f).bind fun t461 => (if t461 = true then ((shape_Check.f l0_0 l0_1).bind fun bt462 => (if bt462.2 = 0 then (stockadelaw04_ShapeAhead.j0 k l1 bt462.1 bt462.2 true l0_0 l0_1) else (if bt462.2 = 4 then (stockadelaw04_ShapeAhead.j0 k l1 bt462.1 bt462.2 true l0_0 l0_1) else (if bt462.2 = 3 then (stockadelaw04_ShapeAhead.j0 k l1 bt462.1 bt462.2 true l0_0 l0_1) else (if bt462.2 = 24 then (stockadelaw04_ShapeAhead.j0 k l1 bt462.1 bt462.2 true l0_0 l0_1) else (if bt462.2 = 25 then (stockadelaw04_ShapeAhead.j0 k l1 bt462.1 bt462.2 true l0_0 l0_1) else (stockadelaw04_ShapeAhead.j0 k l1 bt462.1 bt462.2 (decide ((l0_1.length : Int) > 512)) l0_0 l0_1))))))) else (some false))
theorem stockadelaw04_ShapeAhead.mono_l : ∀ k, (∀ y0 y1 y2 y3 y4 y5, LeO (stockadelaw04_ShapeAhead.j0 k y0 y1 y2 y3 y4 y5) (stockadelaw04_ShapeAhead.j0 (k + 1) y0 y1 y2 y3 y4 y5)) ∧ (∀ y0 y1 y2 y3 y4 y5, LeO (stockadelaw04_ShapeAhead.j1 k y0 y1 y2 y3 y4 y5) (stockadelaw04_ShapeAhead.j1 (k + 1) y0 y1 y2 y3 y4 y5)) ∧ (∀ y0 y1 y2 y3 y4 y5, LeO (stockadelaw04_ShapeAhead.l0 k y0 y1 y2 y3 y4 y5) (stockadelaw04_ShapeAhead.l0 (k + 1) y0 y1 y2 y3 y4 y5))
 | 0 => ⟨fun _ _ _ _ _ _ r h => by simp [stockadelaw04_ShapeAhead.j0] at h, fun _ _ _ _ _ _ r h => by simp [stockadelaw04_ShapeAhead.j1] at h, fun _ _ _ _ _ _ r h => by simp [stockadelaw04_ShapeAhead.l0] at h⟩
 | k + 1 => by
  obtain ⟨ih0, ih1, ih2⟩ := stockadelaw04_ShapeAhead.mono_l k
  refine ⟨?_, ?_, ?_⟩
  ·intro y0 y1 y2 y3 y4 y5
   unfold stockadelaw04_ShapeAhead.j0
   repeat' first
   | (with_reducible exact ih0 _ _ _ _ _ _)
   | (with_reducible exact ih1 _ _ _ _ _ _)
   | (with_reducible exact ih2 _ _ _ _ _ _)
   | (with_reducible exact LeO.refl _)
   | (with_reducible exact LeO.none _)
   | (with_reducible refine LeO.ite ?_ ?_)
   | (with_reducible refine LeO.bind ?_ (fun _ => ?_))
   | exact ih0 _ _ _ _ _ _
   | exact ih1 _ _ _ _ _ _
   | exact ih2 _ _ _ _ _ _
   | exact LeO.none _
   | refine LeO.ite ?_ ?_
   | refine LeO.bind ?_ (fun _ => ?_)
  ·intro y0 y1 y2 y3 y4 y5
   unfold stockadelaw04_ShapeAhead.j1
   repeat' first
   | (with_reducible exact ih0 _ _ _ _ _ _)
   | (with_reducible exact ih1 _ _ _ _ _ _)
   | (with_reducible exact ih2 _ _ _ _ _ _)
   | (with_reducible exact LeO.refl _)
   | (with_reducible exact LeO.none _)
   | (with_reducible refine LeO.ite ?_ ?_)
   | (with_reducible refine LeO.bind ?_ (fun _ => ?_))
   | exact ih0 _ _ _ _ _ _
   | exact ih1 _ _ _ _ _ _
   | exact ih2 _ _ _ _ _ _
   | exact LeO.none _
   | refine LeO.ite ?_ ?_
   | refine LeO.bind ?_ (fun _ => ?_)
  ·intro y0 y1 y2 y3 y4 y5
   unfold stockadelaw04_ShapeAhead.l0
   repeat' first
   | (with_reducible exact ih0 _ _ _ _ _ _)
   | (with_reducible exact ih1 _ _ _ _ _ _)
   | (with_reducible exact ih2 _ _ _ _ _ _)
   | (with_reducible exact LeO.refl _)
   | (with_reducible exact LeO.none _)
   | (with_reducible refine LeO.ite ?_ ?_)
   | (with_reducible refine LeO.bind ?_ (fun _ => ?_))
   | exact ih0 _ _ _ _ _ _
   | exact ih1 _ _ _ _ _ _
   | exact ih2 _ _ _ _ _ _
   | exact LeO.none _
   | refine LeO.ite ?_ ?_
   | refine LeO.bind ?_ (fun _ => ?_)
theorem stockadelaw04_ShapeAhead.mono : ∀ a0 a1 a2 k, LeO (stockadelaw04_ShapeAhead.f k a0 a1 a2) (stockadelaw04_ShapeAhead.f (k + 1) a0 a1 a2) := by
 intro a0 a1 a2 k
 obtain ⟨ih0, ih1, ih2⟩ := stockadelaw04_ShapeAhead.mono_l k
 unfold stockadelaw04_ShapeAhead.f
 repeat' first
   | (with_reducible exact ih0 _ _ _ _ _ _)
   | (with_reducible exact ih1 _ _ _ _ _ _)
   | (with_reducible exact ih2 _ _ _ _ _ _)
   | (with_reducible exact LeO.refl _)
   | (with_reducible exact LeO.none _)
   | (with_reducible refine LeO.ite ?_ ?_)
   | (with_reducible refine LeO.bind ?_ (fun _ => ?_))
   | exact ih0 _ _ _ _ _ _
   | exact ih1 _ _ _ _ _ _
   | exact ih2 _ _ _ _ _ _
   | exact LeO.none _
   | refine LeO.ite ?_ ?_
   | refine LeO.bind ?_ (fun _ => ?_)
def stockadelaw04_ShapeAhead.T8 : Bool × List (List Nat × List Nat) := (true, [([], []), ([0], [0]), ([1], [1]), ([2], [2]), ([2], [2]), ([4, 2], [2, 4]), ([5, 2], [2, 5]), ([3, 6, 2], [2, 3, 6]), ([2, 7], [2, 7]), ([8, 2], [8]), ([9], [9]), ([10, 9], [9, 10]), ([9, 9], [9]), ([12, 9], [9, 12]), ([11, 13, 9], [9, 11, 13]), ([14, 12, 9], [9, 14]), ([15, 9], [9, 15]), ([9, 16], [9, 16])])
def stockadelaw04_ShapeAhead.B8 : List Nat := [0, 1, 3, 7, 7, 23, 55, 127, 255, 511, 1023, 2047, 1023, 5119, 16383, 32767, 65535, 131071]
theorem stockadelaw04_ShapeAhead.tab8 : rtab .any (opsOf Tryd.f6 8) = stockadelaw04_ShapeAhead.T8 := by kernel_rfl
theorem stockadelaw04_ShapeAhead.bits8 : waitsOk stockadelaw04_ShapeAhead.T8.2 stockadelaw04_ShapeAhead.B8 = true := by kernel_rfl
def stockadelaw04_ShapeAhead.T9 : Bool × List (List Nat × List Nat) := (true, [([], []), ([0], [0]), ([], []), ([2], [2]), ([], []), ([], []), ([5], [5]), ([6], [6]), ([4, 7], [4, 7]), ([3, 8, 2], [3, 8]), ([1, 9], [1, 9]), ([10, 9], [10]), ([11], [11]), ([12], [12]), ([12], [12]), ([13, 11, 0, 1, 2, 3, 4, 5, 6, 7, 8, 9, 10, 11, 12, 13], [13]), ([14, 15, 0, 1, 2, 3, 4, 5, 6, 7, 8, 9, 10, 11, 12, 13, 14, 15], [14])])
def stockadelaw04_ShapeAhead.B9 : List Nat := [0, 1, 0, 4, 0, 0, 32, 96, 240, 508, 1023, 2047, 4095, 8191, 8191, 16383, 65535]
theorem stockadelaw04_ShapeAhead.tab9 : rtab .any (opsOf Tryd.f6 9) = stockadelaw04_ShapeAhead.T9 := by kernel_rfl
theorem stockadelaw04_ShapeAhead.bits9 : waitsOk stockadelaw04_ShapeAhead.T9.2 stockadelaw04_ShapeAhead.B9 = true := by kernel_rfl
def stockadelaw04_ShapeAhead.T17 : Bool × List (List Nat × List Nat) := (true, [([], []), ([0], [0]), ([], []), ([], []), ([], []), ([], []), ([4, 5], [4, 5]), ([6], [6]), ([3, 7], [3, 7]), ([8], [8]), ([1, 2, 0, 1, 2, 3, 4, 5, 6, 7, 8, 9], [1, 2]), ([10, 9, 0, 1, 2, 3, 4, 5, 6, 7, 8, 9], [9, 10])])
def stockadelaw04_ShapeAhead.B17 : List Nat := [0, 1, 0, 0, 0, 0, 48, 112, 248, 504, 1023, 2047]
theorem stockadelaw04_ShapeAhead.tab17 : rtab .any (opsOf Tryd.f6 17) = stockadelaw04_ShapeAhead.T17 := by kernel_rfl
theorem stockadelaw04_ShapeAhead.bits17 : waitsOk stockadelaw04_ShapeAhead.T17.2 stockadelaw04_ShapeAhead.B17 = true := by kernel_rfl
set_option maxHeartbeats 8000000 in
set_option maxRecDepth 100000 in
theorem stockadelaw04_ShapeAhead.calls (k : Nat) (A0_0 : Option Addr) (c0_0 : Nat) (l0_0 : List (S52)) (A0_1 : Option Addr) (c0_1 : Nat) (l0_1 : List (S40)) (A1 : Option Addr) (c1 : Nat) (l1 : List (S40)) (r : Bool) (w : World) (hr0_0 : Kd.C k52 w A0_0 l0_0.length l0_0) (hc0_0 : l0_0.length ≤ c0_0) (hr0_1 : Kd.C k40 w A0_1 l0_1.length l0_1) (hc0_1 : l0_1.length ≤ c0_1) (hr1 : Kd.C k40 w A1 l1.length l1) (hc1 : l1.length ≤ c1) (hrG0 : Kd.C (Kd.int .i64) w (some ⟨0, 0, none⟩) gl0.length gl0) (hr_ : r = true) (h : stockadelaw04_ShapeAhead.f k l0_0 l0_1 l1 = some r) :
  Calls Tryd.prog 6 #[.agg #[.slice A0_0 l0_0.length c0_0, .slice A0_1 l0_1.length c0_1], .slice A1 l1.length c1] w fun e w' => e = .returned (.bool r) ∧ Below w.heap.size w w' := by
 have hu25 := Tryd.underlying25
 have hu40 := Tryd.underlying40
 have HR0_0 := Aside0.mk hr0_0
 have HC0_0 := Aside0.mk hc0_0
 clear hr0_0 hc0_0
 have HR0_1 := Aside0.mk hr0_1
 have HC0_1 := Aside0.mk hc0_1
 clear hr0_1 hc0_1
 have HR1 := Aside0.mk hr1
 have HC1 := Aside0.mk hc1
 clear hr1 hc1
 have HRG0 := Aside0.mk hrG0
 clear hrG0
 have HRT := Aside0.mk hr_
 clear hr_
 have HB := Aside0.mk (Below.refl w.heap.size w)
 have H : ((stockadelaw04_awake.f).bind fun t461 => (if t461 = true then ((shape_Check.f l0_0 l0_1).bind fun bt462 => (if bt462.2 = 0 then (stockadelaw04_ShapeAhead.j0 k l1 bt462.1 bt462.2 true l0_0 l0_1) else (if bt462.2 = 4 then (stockadelaw04_ShapeAhead.j0 k l1 bt462.1 bt462.2 true l0_0 l0_1) else (if bt462.2 = 3 then (stockadelaw04_ShapeAhead.j0 k l1 bt462.1 bt462.2 true l0_0 l0_1) else (if bt462.2 = 24 then (stockadelaw04_ShapeAhead.j0 k l1 bt462.1 bt462.2 true l0_0 l0_1) else (if bt462.2 = 25 then (stockadelaw04_ShapeAhead.j0 k l1 bt462.1 bt462.2 true l0_0 l0_1) else (stockadelaw04_ShapeAhead.j0 k l1 bt462.1 bt462.2 (decide ((l0_1.length : Int) > 512)) l0_0 l0_1))))))) else (some false))) = some r := h
 clear h
 replace H := Option.bind_eq_some_iff.mp H; obtain ⟨t461, A30, H⟩ := H; try dsimp only at H
 have A3 := Aside0.mk A30
 clear A30
 by_cases c4 : t461 = true
 ·subst c4
  replace H := sh_t H
  replace H := Option.bind_eq_some_iff.mp H; obtain ⟨⟨t462, t463⟩, A50, H⟩ := H; try dsimp only at H
  have A5 := Aside0.mk A50
  clear A50
  have HC6 := Aside0.mk H
  clear H
  go_enter Tryd.func6, Tryd.ntmps6
  go_upto_region 4 with (first | ((with_reducible refine gate_dst (N := 2) rfl ?_); (try (refine gate_guard (by rfl) ?_; dsimp only)); refine sh_box 2 #[.slice A0_0 l0_0.length c0_0, .slice A0_1 l0_1.length c0_1] 25 ?_; intro gb460 hg w7 hbox hb; have GE460 := sh_z (w := w) hg; replace HB := sh_b (w := w) hb; have BK460 := Aside0.mk (hbox); clear hb hbox hg) | ((with_reducible refine gate_callee (f := 13) rfl ?_); refine sh_call (some 13) Tryd.func13 #[] ?_; (with_reducible refine (stockadelaw04_awake.calls  true _ ?side1 (by first | rfl | exact HRT.out) A3.out).mono ?_); (case side1 => repeat (first | exact (Kd.C_below HRG0.out HB.out) | (with_reducible refine Kd.C_alloc ?_ _) | (with_reducible refine Kd.C_drewN ?_ _) | (with_reducible refine Kd.C_drew ?_))); rintro e w8 ⟨rfl, hb⟩; refine ⟨_, rfl, ?_⟩; replace BK460 := sh_k BK460 hb; replace HB := sh_b (w := w) hb; (try clear hb); (try clear hb2); (try clear hk); (try clear hi); have hcz9 := blk_all2 BK460.out) | ((with_reducible refine gate_callee (f := 11) rfl ?_); refine sh_call (some 17) Tryd.func11 #[.agg #[.slice A0_0 l0_0.length c0_0, .slice A0_1 l0_1.length c0_1]] ?_; (with_reducible refine (shape_Check.calls _ _ l0_0 _ _ l0_1 t462 t463 _ ?side1 ?side2 ?side3 ?side4 ?side5 A5.out).mono ?_); (case side1 => repeat (first | exact (Kd.C_below HR0_0.out HB.out) | (with_reducible refine Kd.C_alloc ?_ _) | (with_reducible refine Kd.C_drewN ?_ _) | (with_reducible refine Kd.C_drew ?_))); (case side2 => exact HC0_0.out); (case side3 => repeat (first | exact (Kd.C_below HR0_1.out HB.out) | (with_reducible refine Kd.C_alloc ?_ _) | (with_reducible refine Kd.C_drewN ?_ _) | (with_reducible refine Kd.C_drew ?_))); (case side4 => exact HC0_1.out); (case side5 => repeat (first | exact (Kd.C_below HRG0.out HB.out) | (with_reducible refine Kd.C_alloc ?_ _) | (with_reducible refine Kd.C_drewN ?_ _) | (with_reducible refine Kd.C_drew ?_))); rintro e w10 ⟨rfl, hb⟩; refine ⟨_, rfl, ?_⟩; replace BK460 := sh_k BK460 hb; replace HB := sh_b (w := w) hb; (try clear hb); (try clear hb2); (try clear hk); (try clear hi)))
  (try simp only [Act.put, List.setIfInBounds_toArray, List.set_cons_zero, List.set_cons_succ])
  go_cut [43] (fun v43 wc => ∃ (kq : Nat) (x43_5 : Bool), v43 = .bool x43_5 ∧ Aside0 (stockadelaw04_ShapeAhead.j0 kq l1 t462 t463 x43_5 l0_0 l0_1 = some r) ∧ Aside0 (kq ≤ k) ∧ Aside0 (wc.heap[gb460]? = some (.cells #[(.slice A0_0 l0_0.length c0_0), (.slice A0_1 l0_1.length c0_1)] 25 (0, 0))) ∧ Aside0 (Below w.heap.size w wc))
  case first =>
   have H := HC6.out
   clear HC6
   by_cases c11 : t463 = 0
   ·rw [if_pos c11] at H
    have c11b0 : (t463 == 0) = true := beq_iff_eq.mpr c11
    have c11b1 : (t463 != 0) = false := bne_eq_false_iff_eq.mpr c11
    clear c11
    (first | rw [c11b0] | (simp only [i64_w, i32_w]; rw [c11b0]) | skip)
    have H' := Aside0.mk H
    clear H
    go_wp2
    go_meet
    case rel => exact ⟨_, (true), eq_now, H', ⟨by first | omega | exact Nat.le_refl _⟩, ⟨bk_now⟩, ⟨b_now⟩⟩
   ·rw [if_neg c11] at H
    have c11b0 : (t463 == 0) = false := beq_eq_false_iff_ne.mpr c11
    have c11b1 : (t463 != 0) = true := bne_iff_ne.mpr c11
    (first | rw [c11b0] | (simp only [i64_w, i32_w]; rw [c11b0]) | skip)
    by_cases c12 : t463 = 4
    ·rw [if_pos c12] at H
     have c12b0 : (t463 == 4) = true := beq_iff_eq.mpr c12
     have c12b1 : (t463 != 4) = false := bne_eq_false_iff_eq.mpr c12
     clear c12
     have H' := Aside0.mk H
     clear H
     go_wp2
     go_meet
     case rel => exact ⟨_, (true), eq_now, H', ⟨by first | omega | exact Nat.le_refl _⟩, ⟨bk_now⟩, ⟨b_now⟩⟩
    ·rw [if_neg c12] at H
     have c12b0 : (t463 == 4) = false := beq_eq_false_iff_ne.mpr c12
     have c12b1 : (t463 != 4) = true := bne_iff_ne.mpr c12
     by_cases c13 : t463 = 3
     ·rw [if_pos c13] at H
      have c13b0 : (t463 == 3) = true := beq_iff_eq.mpr c13
      have c13b1 : (t463 != 3) = false := bne_eq_false_iff_eq.mpr c13
      clear c13
      have H' := Aside0.mk H
      clear H
      go_wp2
      go_meet
      case rel => exact ⟨_, (true), eq_now, H', ⟨by first | omega | exact Nat.le_refl _⟩, ⟨bk_now⟩, ⟨b_now⟩⟩
     ·rw [if_neg c13] at H
      have c13b0 : (t463 == 3) = false := beq_eq_false_iff_ne.mpr c13
      have c13b1 : (t463 != 3) = true := bne_iff_ne.mpr c13
      by_cases c14 : t463 = 24
      ·rw [if_pos c14] at H
       have c14b0 : (t463 == 24) = true := beq_iff_eq.mpr c14
       have c14b1 : (t463 != 24) = false := bne_eq_false_iff_eq.mpr c14
       clear c14
       have H' := Aside0.mk H
       clear H
       go_wp2
       go_meet
       case rel => exact ⟨_, (true), eq_now, H', ⟨by first | omega | exact Nat.le_refl _⟩, ⟨bk_now⟩, ⟨b_now⟩⟩
      ·rw [if_neg c14] at H
       have c14b0 : (t463 == 24) = false := beq_eq_false_iff_ne.mpr c14
       have c14b1 : (t463 != 24) = true := bne_iff_ne.mpr c14
       by_cases c15 : t463 = 25
       ·rw [if_pos c15] at H
        have c15b0 : (t463 == 25) = true := beq_iff_eq.mpr c15
        have c15b1 : (t463 != 25) = false := bne_eq_false_iff_eq.mpr c15
        clear c15
        have H' := Aside0.mk H
        clear H
        go_wp2
        go_meet
        case rel => exact ⟨_, (true), eq_now, H', ⟨by first | omega | exact Nat.le_refl _⟩, ⟨bk_now⟩, ⟨b_now⟩⟩
       ·rw [if_neg c15] at H
        have c15b0 : (t463 == 25) = false := beq_eq_false_iff_ne.mpr c15
        have c15b1 : (t463 != 25) = true := bne_iff_ne.mpr c15
        have H' := Aside0.mk H
        clear H
        have hcz16 := blk_all2 BK460.out
        go_wp2
        go_meet
        case rel => exact ⟨_, (decide ((l0_1.length : Int) > 512)), eq_now, H', ⟨by first | omega | exact Nat.le_refl _⟩, ⟨bk_now⟩, ⟨b_now⟩⟩
  case rest =>
   clear HC6
   try clear c1
   try clear p2
   try clear c4
   try clear c6
   try clear c11
   try clear c11b0
   try clear c11b1
   try clear c12
   try clear c12b0
   try clear c12b1
   try clear c13
   try clear c13b0
   try clear c13b1
   try clear c14
   try clear c14b0
   try clear c14b1
   try clear c15
   try clear c15b0
   try clear c15b1
   try clear hcz16
   try clear hcz9
   obtain ⟨kq, x43_5, rfl, HA, HJ5, BK460, HB⟩ := hcut
   cases kq with
   | zero => exact absurd HA.out (by simp [stockadelaw04_ShapeAhead.j0])
   | succ kj5 =>
    have H := HA.out
    clear HA
    simp only [stockadelaw04_ShapeAhead.j0] at H
    by_cases c17 : x43_5 = true
    ·subst c17
     replace H := sh_t H
     obtain rfl := Option.some.inj H
     go_wp2
     go_ret
     exact ⟨ret_now, b_now⟩
    ·replace c17 := Bool.eq_false_iff.mpr c17
     subst c17
     replace H := sh_f H
     by_cases c18 : t462 < 0
     ·rw [if_pos c18] at H
      have c18b0 : decide (t462 < 0) = true := decide_eq_true c18
      clear c18
      obtain rfl := Option.some.inj H
      exact absurd HRT.out (by simp)
     ·rw [if_neg c18] at H
      have c18b0 : decide (t462 < 0) = false := decide_eq_false c18
      clear c18
      have HC19 := Aside0.mk H
      clear H
      go_upto_region 8 with (fail)
      go_cut [63] (fun v63 wc => ∃ (kq : Nat) (x63_18 : Bool), v63 = .bool x63_18 ∧ Aside0 (stockadelaw04_ShapeAhead.j1 kq l1 t462 t463 x63_18 l0_0 l0_1 = some r) ∧ Aside0 (kq ≤ kj5) ∧ Aside0 (wc.heap[gb460]? = some (.cells #[(.slice A0_0 l0_0.length c0_0), (.slice A0_1 l0_1.length c0_1)] 25 (0, 0))) ∧ Aside0 (Below w.heap.size w wc))
      case first =>
       have H := HC19.out
       clear HC19
       by_cases c20 : t463 = 26
       ·rw [if_pos c20] at H
        have c20b0 : (t463 == 26) = true := beq_iff_eq.mpr c20
        have c20b1 : (t463 != 26) = false := bne_eq_false_iff_eq.mpr c20
        clear c20
        (first | rw [c20b0] | (simp only [i64_w, i32_w]; rw [c20b0]) | skip)
        by_cases c21 : t462 < (l0_0.length : Int)
        ·rw [if_pos c21] at H
         have c21b0 : decide (t462 < (l0_0.length : Int)) = true := decide_eq_true c21
         clear c21
         replace H := Option.bind_eq_some_iff.mp H; obtain ⟨⟨t464, t465, t466, t467, t468⟩, A220, H⟩ := H; try dsimp only at H
         have A22 := Aside0.mk A220
         clear A220
         obtain ⟨y469, hy469⟩ : ∃ y_ : List (S40), y_ = (([(⟨t464, t465, t466, t467, t468⟩ : S40)] : List (S40))) := ⟨_, rfl⟩
         replace H : ((stockadelaw04_right.f l0_0 y469).bind fun t472 => (stockadelaw04_ShapeAhead.j1 kj5 l1 t462 t463 (!t472) l0_0 l0_1)) = some r := by first | (rw [hy469]; with_reducible exact H) | (have H2_ := (Option.bind_some _ _).symm.trans H; rw [hy469]; with_reducible exact H2_) | (have H2_ := (Option.bind_some _ _).symm.trans H; with_reducible exact H2_) | with_reducible exact H | (rw [hy469]; exact H) | exact H
         have Ny469 := Aside0.mk hy469
         clear hy469
         replace H := Option.bind_eq_some_iff.mp H; obtain ⟨t472, A230, H⟩ := H; try dsimp only at H
         have A23 := Aside0.mk A230
         clear A230
         have H' := Aside0.mk H
         clear H
         try go_wp2
         have n0_ := Aside0.mk (blk_drew BK460.out)
         have n1_ := Aside0.mk (below_drew1 HB.out)
         clear BK460
         clear HB
         have BK460 := n0_
         have HB := n1_
         clear n0_ n1_
         refine start_ (n := 18) (S := fun w' => w'.cell? ⟨gb460, 0, none⟩ = some (.slice A0_0 l0_0.length c0_0) ∧ w'.cell? ⟨gb460, 1, none⟩ = some (.slice A0_1 l0_1.length c0_1)) (ds := []) #[false, false, false, false, false, false, false, false, false, false, false, false, false, false, false, false, false, false] (by kernel_rfl) rfl rfl ⟨(blk_cell BK460.out 0).trans rfl, (blk_cell BK460.out 1).trans rfl⟩ (fun hHeld => ?_); refine with_tabW stockadelaw04_ShapeAhead.tab8 stockadelaw04_ShapeAhead.bits8 (fun HT_ HW_ => ?_)
         generalize wc.drew = w24 at BK460 HB hHeld ⊢
         refine pure_ (i := 0) (N := some 46) (v := ?_) (a' := ?_) #[true, false, false, false, false, false, false, false, false, false, false, false, false, false, false, false, false, false] rfl rfl (any_of HT_.out (by kernel_rfl)) (fun _ _ _ h => h) (Or.inl ⟨by rfl, ?_⟩) ?_ ?_
         rotate_left
         ·intro w'
          go_simp
          with_reducible rfl
         rotate_left
         ·simp only [Act.put, List.setIfInBounds_toArray, List.set_cons_zero, List.set_cons_succ, i64_w, i32_w]
          rfl
         refine pure_ (i := 1) (N := some 47) (v := ?_) (a' := ?_) #[true, true, false, false, false, false, false, false, false, false, false, false, false, false, false, false, false, false] rfl rfl (any_of HT_.out (by kernel_rfl)) (fun _ _ _ h => h) (Or.inl ⟨by rfl, ?_⟩) ?_ ?_
         rotate_left
         ·intro w'
          go_simp
          with_reducible rfl
         rotate_left
         ·simp only [Act.put, List.setIfInBounds_toArray, List.set_cons_zero, List.set_cons_succ, i64_w, i32_w]
          rfl
         refine pure_ (i := 2) (N := some 48) (v := ?_) (a' := ?_) #[true, true, true, false, false, false, false, false, false, false, false, false, false, false, false, false, false, false] rfl rfl (any_of HT_.out (by kernel_rfl)) (fun _ _ _ h => h) (Or.inl ⟨by rfl, ?_⟩) ?_ ?_
         rotate_left
         ·intro w'
          go_simp
          with_reducible rfl
         rotate_left
         ·simp only [Act.put, List.setIfInBounds_toArray, List.set_cons_zero, List.set_cons_succ, i64_w, i32_w]
          rfl
         refine pure_ (i := 3) (N := some 49) (v := ?_) (a' := ?_) #[true, true, true, true, false, false, false, false, false, false, false, false, false, false, false, false, false, false] rfl rfl (any_of HT_.out (by kernel_rfl)) (fun _ _ _ h => h) (Or.inl ⟨by rfl, ?_⟩) ?_ ?_
         rotate_left
         ·intro w'
          go_simp
          with_reducible rfl
         rotate_left
         ·simp only [Act.put, List.setIfInBounds_toArray, List.set_cons_zero, List.set_cons_succ, i64_w, i32_w]
          rfl
         refine pure_ (i := 4) (N := some 50) (v := ?_) (a' := ?_) #[true, true, true, true, true, false, false, false, false, false, false, false, false, false, false, false, false, false] rfl rfl (any_of HT_.out (by kernel_rfl)) (fun _ _ _ h => h) (Or.inl ⟨by rfl, ?_⟩) ?_ ?_
         rotate_left
         ·intro w'
          go_simp
          with_reducible rfl
         rotate_left
         ·simp only [Act.put, List.setIfInBounds_toArray, List.set_cons_zero, List.set_cons_succ, i64_w, i32_w]
          rfl
         refine take_ (i := 5) (N := some 51) (v := ?_) (a' := ?_) #[true, true, true, true, true, true, false, false, false, false, false, false, false, false, false, false, false, false] rfl rfl (take_ofW HT_.out HW_.out (by kernel_rfl)) (fun _ _ _ h => h) (Or.inl ⟨by rfl, ?_⟩) hHeld ?_ ?_
         rotate_left
         ·rintro w' ⟨s0, s1⟩
          go_simp
          with_reducible rfl
         rotate_left
         ·simp only [Act.put, List.setIfInBounds_toArray, List.set_cons_zero, List.set_cons_succ, i64_w, i32_w]
          rfl
         refine pure_ (i := 6) (N := some 52) (v := ?_) (a' := ?_) #[true, true, true, true, true, true, true, false, false, false, false, false, false, false, false, false, false, false] rfl rfl (any_of HT_.out (by kernel_rfl)) (fun _ _ _ h => h) (Or.inl ⟨by rfl, ?_⟩) ?_ ?_
         rotate_left
         ·intro w'
          go_simp
          with_reducible rfl
         rotate_left
         ·simp only [Act.put, List.setIfInBounds_toArray, List.set_cons_zero, List.set_cons_succ, i64_w, i32_w]
          rfl
         refine pure_ (i := 7) (N := some 53) (v := ?_) (a' := ?_) #[true, true, true, true, true, true, true, true, false, false, false, false, false, false, false, false, false, false] rfl rfl (any_of HT_.out (by kernel_rfl)) (fun _ _ _ h => h) (Or.inl ⟨by rfl, ?_⟩) ?_ ?_
         rotate_left
         ·intro w'
          go_simp
          with_reducible rfl
         rotate_left
         ·simp only [Act.put, List.setIfInBounds_toArray, List.set_cons_zero, List.set_cons_succ, i64_w, i32_w]
          rfl
         refine pure_ (i := 8) (N := some 54) (v := ?_) (a' := ?_) #[true, true, true, true, true, true, true, true, true, false, false, false, false, false, false, false, false, false] rfl rfl (any_of HT_.out (by kernel_rfl)) (fun _ _ _ h => h) (Or.inl ⟨by rfl, ?_⟩) ?_ ?_
         rotate_left
         ·intro w'
          go_simp
          with_reducible rfl
         rotate_left
         ·simp only [Act.put, List.setIfInBounds_toArray, List.set_cons_zero, List.set_cons_succ, i64_w, i32_w]
          rfl
         refine pure_ (i := 9) (N := some 55) (v := ?_) (a' := ?_) #[true, true, true, true, true, true, true, true, true, true, false, false, false, false, false, false, false, false] rfl rfl (any_of HT_.out (by kernel_rfl)) (fun _ _ _ h => h) (Or.inl ⟨by rfl, ?_⟩) ?_ ?_
         rotate_left
         ·intro w'
          go_simp
          with_reducible rfl
         rotate_left
         ·simp only [Act.put, List.setIfInBounds_toArray, List.set_cons_zero, List.set_cons_succ, i64_w, i32_w]
          rfl
         refine pure_ (i := 10) (N := some 56) (v := ?_) (a' := ?_) #[true, true, true, true, true, true, true, true, true, true, true, false, false, false, false, false, false, false] rfl rfl (any_of HT_.out (by kernel_rfl)) (fun _ _ _ h => h) (Or.inl ⟨by rfl, ?_⟩) ?_ ?_
         rotate_left
         ·intro w'
          go_simp
          with_reducible rfl
         rotate_left
         ·simp only [Act.put, List.setIfInBounds_toArray, List.set_cons_zero, List.set_cons_succ, i64_w, i32_w]
          rfl
         refine take_ (i := 11) (N := some 57) (v := ?_) (a' := ?_) #[true, true, true, true, true, true, true, true, true, true, true, true, false, false, false, false, false, false] rfl rfl (take_ofW HT_.out HW_.out (by kernel_rfl)) (fun _ _ _ h => h) (Or.inl ⟨by rfl, ?_⟩) hHeld ?_ ?_
         rotate_left
         ·rintro w' ⟨s0, s1⟩
          go_simp
          with_reducible rfl
         rotate_left
         ·simp only [Act.put, List.setIfInBounds_toArray, List.set_cons_zero, List.set_cons_succ, i64_w, i32_w]
          rfl
         refine one_ (i := 12) (N := some 58) #[true, true, true, true, true, true, true, true, true, true, true, true, true, false, false, false, false, false] rfl rfl (one_of HT_.out (by kernel_rfl)) (by decide) (fun K hK => ?_)
         refine goes_ Tryd.func24 (by kernel_rfl) rfl #[] (by rfl) rfl rfl (by (try simp only [List.map_toArray, List.map_cons, List.map_nil]); first | done | rfl | (simp only [List.length_drop, List.length_take]; rfl)) ?_
         with_reducible refine (stockadelaw04_exit.calls  t464 t465 t466 t467 t468 _ A22.out).mono ?_
         rintro e w25 ⟨rfl, hb⟩
         refine ⟨_, rfl, ?_⟩
         have n0_ := Aside0.mk (blk_below (g := gb460) (o := .cells #[.slice A0_0 l0_0.length c0_0, .slice A0_1 l0_1.length c0_1] 25 (0, 0)) bk_now hb)
         have n1_ := Aside0.mk (below_step b_now hb)
         clear BK460
         clear HB
         have BK460 := n0_
         have HB := n1_
         clear n0_ n1_
         (try clear hb)
         (try clear hb2)
         (try clear hk)
         (try clear hi)
         refine hK.out _ _ ⟨(blk_cell BK460.out 0).trans rfl, (blk_cell BK460.out 1).trans rfl⟩ (fun hHeld => ?_)
         clear hK K
         refine norm_ (a' := ?_) ?_ ?_
         rotate_left
         ·show Act.put _ (some 58) _ = _
          simp only [Act.put, List.setIfInBounds_toArray, List.set_cons_zero, List.set_cons_succ, i64_w, i32_w]
          rfl
         refine one_ (i := 13) (N := some 59) #[true, true, true, true, true, true, true, true, true, true, true, true, true, true, false, false, false, false] rfl rfl (one_of HT_.out (by kernel_rfl)) (by decide) (fun K hK => ?_)
         refine Kd.R_lit_step k40 _ 40 ?hg (N := 59) ?hd (xs := ([(⟨t464, t465, t466, t467, t468⟩ : S40)] : List (S40))) (inner := [.int .u8 t464, .int .u8 t465, .int .u8 t466, .int .i16 t467, .int .i32 t468]) (ok := fun _ => True) (okp := fun _ => True) ?hr ?hp (fun _ hk => hk) trivial (Below.refl _ _) (Nat.le_refl _) (by simp) ?_; (case hd => rfl); (case hg => rfl); (case hr => first | (go_simp; done) | (go_simp; rfl)); (case hp => exact (Reps.c5 (show Kd.M k40 _ _ _ (⟨t464, t465, t466, t467, t468⟩ : S40) [.int .u8 t464, .int .u8 t465, .int .u8 t466, .int .i16 t467, .int .i32 t468] from (k40_mkM _ _ _ (⟨t464, t465, t466, t467, t468⟩ : S40) )) (Reps.none _ _)))
         intro v470 w26 ho27 hb hg_ hnew_
         clear hg_ hnew_
         (first | rw [← Ny469.out] at ho27 | (simp only [Int.reduceToNat] at ho27; rw [← Ny469.out] at ho27))
         have n0_ := Aside0.mk (Kd.R_lower ho27 (below_size b_now))
         have n1_ := Aside0.mk (blk_below (g := gb460) (o := .cells #[.slice A0_0 l0_0.length c0_0, .slice A0_1 l0_1.length c0_1] 25 (0, 0)) bk_now hb)
         have n2_ := Aside0.mk (below_step b_now hb)
         clear BK460
         clear HB
         have HO471 := n0_
         have BK460 := n1_
         have HB := n2_
         clear n0_ n1_ n2_
         clear hb ho27
         obtain ⟨Ao28, co28, eo28⟩ := Kd.R_slice HO471.out
         (first | subst eo28 | (injection eo28 with f1_ f2_ f3_; have f4_ := f1_.symm; have f5_ := f3_.symm; clear f1_ f2_ f3_; subst f4_; subst f5_))
         refine hK.out _ _ ⟨(blk_cell BK460.out 0).trans rfl, (blk_cell BK460.out 1).trans rfl⟩ (fun hHeld => ?_)
         clear hK K
         refine norm_ (a' := ?_) ?_ ?_
         rotate_left
         ·show Act.put _ (some 59) _ = _
          simp only [Act.put, List.setIfInBounds_toArray, List.set_cons_zero, List.set_cons_succ, i64_w, i32_w]
          rfl
         refine pure_ (i := 14) (N := some 60) (v := ?_) (a' := ?_) #[true, true, true, true, true, true, true, true, true, true, true, true, true, true, true, false, false, false] rfl rfl (any_of HT_.out (by kernel_rfl)) (fun _ _ _ h => h) (Or.inl ⟨by rfl, ?_⟩) ?_ ?_
         rotate_left
         ·intro w'
          go_simp
          with_reducible rfl
         rotate_left
         ·simp only [Act.put, List.setIfInBounds_toArray, List.set_cons_zero, List.set_cons_succ, i64_w, i32_w]
          rfl
         refine one_ (i := 15) (N := some 61) #[true, true, true, true, true, true, true, true, true, true, true, true, true, true, true, true, false, false] rfl rfl (one_of HT_.out (by kernel_rfl)) (by decide) (fun K hK => ?_)
         refine goes_ Tryd.func21 (by kernel_rfl) rfl #[.agg #[.slice A0_0 l0_0.length c0_0, .slice Ao28 y469.length co28]] (by rfl) rfl rfl (by (try simp only [List.map_toArray, List.map_cons, List.map_nil]); first | done | rfl | (simp only [List.length_drop, List.length_take]; rfl)) ?_
         with_reducible refine (stockadelaw04_right.calls _ _ l0_0 _ _ y469 t472 _ ?side1 ?side2 ?side3 ?side4 ?side5 A23.out).mono ?_
         (case side1 => repeat (first | exact (Kd.C_below HR0_0.out HB.out) | (with_reducible refine Kd.C_alloc ?_ _) | (with_reducible refine Kd.C_drewN ?_ _) | (with_reducible refine Kd.C_drew ?_)))
         (case side2 => exact HC0_0.out)
         (case side3 => repeat (first | exact (Kd.R_reads' HO471.out).2.2 | (with_reducible refine Kd.C_alloc ?_ _) | (with_reducible refine Kd.C_drewN ?_ _) | (with_reducible refine Kd.C_drew ?_)))
         (case side4 => exact (Kd.R_reads' HO471.out).2.1)
         (case side5 => repeat (first | exact (Kd.C_below HRG0.out HB.out) | (with_reducible refine Kd.C_alloc ?_ _) | (with_reducible refine Kd.C_drewN ?_ _) | (with_reducible refine Kd.C_drew ?_)))
         rintro e w29 ⟨rfl, hb⟩
         refine ⟨_, rfl, ?_⟩
         have n0_ := Aside0.mk (Kd.R_below (by (with_reducible repeat (first | apply Kd.R_alloc | apply Kd.R_drewN | apply Kd.R_drew)); exact HO471.out) hb)
         have n1_ := Aside0.mk (blk_below (g := gb460) (o := .cells #[.slice A0_0 l0_0.length c0_0, .slice A0_1 l0_1.length c0_1] 25 (0, 0)) bk_now hb)
         have n2_ := Aside0.mk (below_step b_now hb)
         clear HO471
         clear BK460
         clear HB
         have HO471 := n0_
         have BK460 := n1_
         have HB := n2_
         clear n0_ n1_ n2_
         (try clear hb)
         (try clear hb2)
         (try clear hk)
         (try clear hi)
         refine hK.out _ _ ⟨(blk_cell BK460.out 0).trans rfl, (blk_cell BK460.out 1).trans rfl⟩ (fun hHeld => ?_)
         clear hK K
         refine norm_ (a' := ?_) ?_ ?_
         rotate_left
         ·show Act.put _ (some 61) _ = _
          simp only [Act.put, List.setIfInBounds_toArray, List.set_cons_zero, List.set_cons_succ, i64_w, i32_w]
          rfl
         refine pure_ (i := 16) (N := some 62) (v := ?_) (a' := ?_) #[true, true, true, true, true, true, true, true, true, true, true, true, true, true, true, true, true, false] rfl rfl (any_of HT_.out (by kernel_rfl)) (fun _ _ _ h => h) (Or.inl ⟨by rfl, ?_⟩) ?_ ?_
         rotate_left
         ·intro w'
          go_simp
          with_reducible rfl
         rotate_left
         ·simp only [Act.put, List.setIfInBounds_toArray, List.set_cons_zero, List.set_cons_succ, i64_w, i32_w]
          rfl
         refine pure_ (i := 17) (N := some 63) (v := ?_) (a' := ?_) #[true, true, true, true, true, true, true, true, true, true, true, true, true, true, true, true, true, true] rfl rfl (any_of HT_.out (by kernel_rfl)) (fun _ _ _ h => h) (Or.inl ⟨by rfl, ?_⟩) ?_ ?_
         rotate_left
         ·intro w'
          go_simp
          with_reducible rfl
         rotate_left
         ·simp only [Act.put, List.setIfInBounds_toArray, List.set_cons_zero, List.set_cons_succ, i64_w, i32_w]
          rfl
         refine done_ (done_of HT_.out (by kernel_rfl)) ?_
         try go_wp2
         go_meet
         case rel => exact ⟨_, (!t472), eq_now, H', ⟨by have := HJ5.out; first | omega | exact Nat.le_refl _⟩, ⟨bk_now⟩, ⟨b_now⟩⟩
        ·rw [if_neg c21] at H
         have c21b0 : decide (t462 < (l0_0.length : Int)) = false := decide_eq_false c21
         clear c21
         have H' := Aside0.mk H
         clear H
         try go_wp2
         have n0_ := Aside0.mk (blk_drew BK460.out)
         have n1_ := Aside0.mk (below_drew1 HB.out)
         clear BK460
         clear HB
         have BK460 := n0_
         have HB := n1_
         clear n0_ n1_
         refine start_ (n := 18) (S := fun w' => w'.cell? ⟨gb460, 0, none⟩ = some (.slice A0_0 l0_0.length c0_0) ∧ w'.cell? ⟨gb460, 1, none⟩ = some (.slice A0_1 l0_1.length c0_1)) (ds := []) #[false, false, false, false, false, false, false, false, false, false, false, false, false, false, false, false, false, false] (by kernel_rfl) rfl rfl ⟨(blk_cell BK460.out 0).trans rfl, (blk_cell BK460.out 1).trans rfl⟩ (fun hHeld => ?_); refine with_tabW stockadelaw04_ShapeAhead.tab8 stockadelaw04_ShapeAhead.bits8 (fun HT_ HW_ => ?_)
         generalize wc.drew = w30 at BK460 HB hHeld ⊢
         refine pure_ (i := 0) (N := some 46) (v := ?_) (a' := ?_) #[true, false, false, false, false, false, false, false, false, false, false, false, false, false, false, false, false, false] rfl rfl (any_of HT_.out (by kernel_rfl)) (fun _ _ _ h => h) (Or.inl ⟨by rfl, ?_⟩) ?_ ?_
         rotate_left
         ·intro w'
          go_simp
          with_reducible rfl
         rotate_left
         ·simp only [Act.put, List.setIfInBounds_toArray, List.set_cons_zero, List.set_cons_succ, i64_w, i32_w]
          rfl
         refine pure_ (i := 1) (N := some 47) (v := ?_) (a' := ?_) #[true, true, false, false, false, false, false, false, false, false, false, false, false, false, false, false, false, false] rfl rfl (any_of HT_.out (by kernel_rfl)) (fun _ _ _ h => h) (Or.inl ⟨by rfl, ?_⟩) ?_ ?_
         rotate_left
         ·intro w'
          go_simp
          with_reducible rfl
         rotate_left
         ·simp only [Act.put, List.setIfInBounds_toArray, List.set_cons_zero, List.set_cons_succ, i64_w, i32_w]
          rfl
         refine pure_ (i := 2) (N := some 48) (v := ?_) (a' := ?_) #[true, true, true, false, false, false, false, false, false, false, false, false, false, false, false, false, false, false] rfl rfl (any_of HT_.out (by kernel_rfl)) (fun _ _ _ h => h) (Or.inl ⟨by rfl, ?_⟩) ?_ ?_
         rotate_left
         ·intro w'
          go_simp
          with_reducible rfl
         rotate_left
         ·simp only [Act.put, List.setIfInBounds_toArray, List.set_cons_zero, List.set_cons_succ, i64_w, i32_w]
          rfl
         refine pure_ (i := 3) (N := some 49) (v := ?_) (a' := ?_) #[true, true, true, true, false, false, false, false, false, false, false, false, false, false, false, false, false, false] rfl rfl (any_of HT_.out (by kernel_rfl)) (fun _ _ _ h => h) (Or.inl ⟨by rfl, ?_⟩) ?_ ?_
         rotate_left
         ·intro w'
          go_simp
          with_reducible rfl
         rotate_left
         ·simp only [Act.put, List.setIfInBounds_toArray, List.set_cons_zero, List.set_cons_succ, i64_w, i32_w]
          rfl
         refine pure_ (i := 4) (N := some 50) (v := ?_) (a' := ?_) #[true, true, true, true, true, false, false, false, false, false, false, false, false, false, false, false, false, false] rfl rfl (any_of HT_.out (by kernel_rfl)) (fun _ _ _ h => h) (Or.inl ⟨by rfl, ?_⟩) ?_ ?_
         rotate_left
         ·intro w'
          go_simp
          with_reducible rfl
         rotate_left
         ·simp only [Act.put, List.setIfInBounds_toArray, List.set_cons_zero, List.set_cons_succ, i64_w, i32_w]
          rfl
         refine take_ (i := 5) (N := some 51) (v := ?_) (a' := ?_) #[true, true, true, true, true, true, false, false, false, false, false, false, false, false, false, false, false, false] rfl rfl (take_ofW HT_.out HW_.out (by kernel_rfl)) (fun _ _ _ h => h) (Or.inl ⟨by rfl, ?_⟩) hHeld ?_ ?_
         rotate_left
         ·rintro w' ⟨s0, s1⟩
          go_simp
          with_reducible rfl
         rotate_left
         ·simp only [Act.put, List.setIfInBounds_toArray, List.set_cons_zero, List.set_cons_succ, i64_w, i32_w]
          rfl
         refine pure_ (i := 6) (N := some 52) (v := ?_) (a' := ?_) #[true, true, true, true, true, true, true, false, false, false, false, false, false, false, false, false, false, false] rfl rfl (any_of HT_.out (by kernel_rfl)) (fun _ _ _ h => h) (Or.inl ⟨by rfl, ?_⟩) ?_ ?_
         rotate_left
         ·intro w'
          go_simp
          with_reducible rfl
         rotate_left
         ·simp only [Act.put, List.setIfInBounds_toArray, List.set_cons_zero, List.set_cons_succ, i64_w, i32_w]
          rfl
         refine pure_ (i := 7) (N := some 53) (v := ?_) (a' := ?_) #[true, true, true, true, true, true, true, true, false, false, false, false, false, false, false, false, false, false] rfl rfl (any_of HT_.out (by kernel_rfl)) (fun _ _ _ h => h) (Or.inl ⟨by rfl, ?_⟩) ?_ ?_
         rotate_left
         ·intro w'
          go_simp
          with_reducible rfl
         rotate_left
         ·simp only [Act.put, List.setIfInBounds_toArray, List.set_cons_zero, List.set_cons_succ, i64_w, i32_w]
          rfl
         refine pure_ (i := 8) (N := some 54) (v := ?_) (a' := ?_) #[true, true, true, true, true, true, true, true, true, false, false, false, false, false, false, false, false, false] rfl rfl (any_of HT_.out (by kernel_rfl)) (fun _ _ _ h => h) (Or.inl ⟨by rfl, ?_⟩) ?_ ?_
         rotate_left
         ·intro w'
          go_simp
          with_reducible rfl
         rotate_left
         ·simp only [Act.put, List.setIfInBounds_toArray, List.set_cons_zero, List.set_cons_succ, i64_w, i32_w]
          rfl
         refine pure_ (i := 9) (N := some 55) (v := ?_) (a' := ?_) #[true, true, true, true, true, true, true, true, true, true, false, false, false, false, false, false, false, false] rfl rfl (any_of HT_.out (by kernel_rfl)) (fun _ _ _ h => h) (Or.inl ⟨by rfl, ?_⟩) ?_ ?_
         rotate_left
         ·intro w'
          go_simp
          with_reducible rfl
         rotate_left
         ·simp only [Act.put, List.setIfInBounds_toArray, List.set_cons_zero, List.set_cons_succ, i64_w, i32_w]
          rfl
         refine pure_ (i := 10) (N := some 56) (v := undef) (a' := ?_) #[true, true, true, true, true, true, true, true, true, true, true, false, false, false, false, false, false, false] rfl rfl (any_of HT_.out (by kernel_rfl)) (fun _ _ _ h => h) (Or.inr ⟨by rfl, rfl⟩) ?_ ?_
         rotate_left
         ·simp only [Act.put, List.setIfInBounds_toArray, List.set_cons_zero, List.set_cons_succ, i64_w, i32_w]
          rfl
         refine pure_ (i := 11) (N := some 57) (v := undef) (a' := ?_) #[true, true, true, true, true, true, true, true, true, true, true, true, false, false, false, false, false, false] rfl rfl (any_of HT_.out (by kernel_rfl)) (fun _ _ _ h => h) (Or.inr ⟨by rfl, rfl⟩) ?_ ?_
         rotate_left
         ·simp only [Act.put, List.setIfInBounds_toArray, List.set_cons_zero, List.set_cons_succ, i64_w, i32_w]
          rfl
         refine pure_ (i := 12) (N := some 58) (v := undef) (a' := ?_) #[true, true, true, true, true, true, true, true, true, true, true, true, true, false, false, false, false, false] rfl rfl (any_of HT_.out (by kernel_rfl)) (fun _ _ _ h => h) (Or.inr ⟨by rfl, rfl⟩) ?_ ?_
         rotate_left
         ·simp only [Act.put, List.setIfInBounds_toArray, List.set_cons_zero, List.set_cons_succ, i64_w, i32_w]
          rfl
         refine pure_ (i := 13) (N := some 59) (v := undef) (a' := ?_) #[true, true, true, true, true, true, true, true, true, true, true, true, true, true, false, false, false, false] rfl rfl (any_of HT_.out (by kernel_rfl)) (fun _ _ _ h => h) (Or.inr ⟨by rfl, rfl⟩) ?_ ?_
         rotate_left
         ·simp only [Act.put, List.setIfInBounds_toArray, List.set_cons_zero, List.set_cons_succ, i64_w, i32_w]
          rfl
         refine pure_ (i := 14) (N := some 60) (v := undef) (a' := ?_) #[true, true, true, true, true, true, true, true, true, true, true, true, true, true, true, false, false, false] rfl rfl (any_of HT_.out (by kernel_rfl)) (fun _ _ _ h => h) (Or.inr ⟨by rfl, rfl⟩) ?_ ?_
         rotate_left
         ·simp only [Act.put, List.setIfInBounds_toArray, List.set_cons_zero, List.set_cons_succ, i64_w, i32_w]
          rfl
         refine pure_ (i := 15) (N := some 61) (v := undef) (a' := ?_) #[true, true, true, true, true, true, true, true, true, true, true, true, true, true, true, true, false, false] rfl rfl (any_of HT_.out (by kernel_rfl)) (fun _ _ _ h => h) (Or.inr ⟨by rfl, rfl⟩) ?_ ?_
         rotate_left
         ·simp only [Act.put, List.setIfInBounds_toArray, List.set_cons_zero, List.set_cons_succ, i64_w, i32_w]
          rfl
         refine pure_ (i := 16) (N := some 62) (v := undef) (a' := ?_) #[true, true, true, true, true, true, true, true, true, true, true, true, true, true, true, true, true, false] rfl rfl (any_of HT_.out (by kernel_rfl)) (fun _ _ _ h => h) (Or.inr ⟨by rfl, rfl⟩) ?_ ?_
         rotate_left
         ·simp only [Act.put, List.setIfInBounds_toArray, List.set_cons_zero, List.set_cons_succ, i64_w, i32_w]
          rfl
         refine pure_ (i := 17) (N := some 63) (v := ?_) (a' := ?_) #[true, true, true, true, true, true, true, true, true, true, true, true, true, true, true, true, true, true] rfl rfl (any_of HT_.out (by kernel_rfl)) (fun _ _ _ h => h) (Or.inl ⟨by rfl, ?_⟩) ?_ ?_
         rotate_left
         ·intro w'
          go_simp
          with_reducible rfl
         rotate_left
         ·simp only [Act.put, List.setIfInBounds_toArray, List.set_cons_zero, List.set_cons_succ, i64_w, i32_w]
          rfl
         refine done_ (done_of HT_.out (by kernel_rfl)) ?_
         try go_wp2
         go_meet
         case rel => exact ⟨_, (false), eq_now, H', ⟨by have := HJ5.out; first | omega | exact Nat.le_refl _⟩, ⟨bk_now⟩, ⟨b_now⟩⟩
       ·rw [if_neg c20] at H
        have c20b0 : (t463 == 26) = false := beq_eq_false_iff_ne.mpr c20
        have c20b1 : (t463 != 26) = true := bne_iff_ne.mpr c20
        (first | rw [c20b0] | (simp only [i64_w, i32_w]; rw [c20b0]) | skip)
        have H' := Aside0.mk H
        clear H
        try go_wp2
        have n0_ := Aside0.mk (blk_drew BK460.out)
        have n1_ := Aside0.mk (below_drew1 HB.out)
        clear BK460
        clear HB
        have BK460 := n0_
        have HB := n1_
        clear n0_ n1_
        refine start_ (n := 18) (S := fun w' => True) (ds := []) #[false, false, false, false, false, false, false, false, false, false, false, false, false, false, false, false, false, false] (by kernel_rfl) rfl rfl trivial (fun hHeld => ?_); refine with_tabW stockadelaw04_ShapeAhead.tab8 stockadelaw04_ShapeAhead.bits8 (fun HT_ HW_ => ?_)
        generalize wc.drew = w31 at BK460 HB hHeld ⊢
        refine pure_ (i := 0) (N := some 46) (v := ?_) (a' := ?_) #[true, false, false, false, false, false, false, false, false, false, false, false, false, false, false, false, false, false] rfl rfl (any_of HT_.out (by kernel_rfl)) (fun _ _ _ h => h) (Or.inl ⟨by rfl, ?_⟩) ?_ ?_
        rotate_left
        ·intro w'
         go_simp
         with_reducible rfl
        rotate_left
        ·simp only [Act.put, List.setIfInBounds_toArray, List.set_cons_zero, List.set_cons_succ, i64_w, i32_w]
         rfl
        refine pure_ (i := 1) (N := some 47) (v := ?_) (a' := ?_) #[true, true, false, false, false, false, false, false, false, false, false, false, false, false, false, false, false, false] rfl rfl (any_of HT_.out (by kernel_rfl)) (fun _ _ _ h => h) (Or.inl ⟨by rfl, ?_⟩) ?_ ?_
        rotate_left
        ·intro w'
         go_simp
         with_reducible rfl
        rotate_left
        ·simp only [Act.put, List.setIfInBounds_toArray, List.set_cons_zero, List.set_cons_succ, i64_w, i32_w]
         rfl
        refine pure_ (i := 2) (N := some 48) (v := ?_) (a' := ?_) #[true, true, true, false, false, false, false, false, false, false, false, false, false, false, false, false, false, false] rfl rfl (any_of HT_.out (by kernel_rfl)) (fun _ _ _ h => h) (Or.inl ⟨by rfl, ?_⟩) ?_ ?_
        rotate_left
        ·intro w'
         go_simp
         with_reducible rfl
        rotate_left
        ·simp only [Act.put, List.setIfInBounds_toArray, List.set_cons_zero, List.set_cons_succ, i64_w, i32_w]
         rfl
        refine pure_ (i := 3) (N := some 49) (v := undef) (a' := ?_) #[true, true, true, true, false, false, false, false, false, false, false, false, false, false, false, false, false, false] rfl rfl (any_of HT_.out (by kernel_rfl)) (fun _ _ _ h => h) (Or.inr ⟨by rfl, rfl⟩) ?_ ?_
        rotate_left
        ·simp only [Act.put, List.setIfInBounds_toArray, List.set_cons_zero, List.set_cons_succ, i64_w, i32_w]
         rfl
        refine pure_ (i := 4) (N := some 50) (v := undef) (a' := ?_) #[true, true, true, true, true, false, false, false, false, false, false, false, false, false, false, false, false, false] rfl rfl (any_of HT_.out (by kernel_rfl)) (fun _ _ _ h => h) (Or.inr ⟨by rfl, rfl⟩) ?_ ?_
        rotate_left
        ·simp only [Act.put, List.setIfInBounds_toArray, List.set_cons_zero, List.set_cons_succ, i64_w, i32_w]
         rfl
        refine pure_ (i := 5) (N := some 51) (v := undef) (a' := ?_) #[true, true, true, true, true, true, false, false, false, false, false, false, false, false, false, false, false, false] rfl rfl (any_of HT_.out (by kernel_rfl)) (fun _ _ _ h => h) (Or.inr ⟨by rfl, rfl⟩) ?_ ?_
        rotate_left
        ·simp only [Act.put, List.setIfInBounds_toArray, List.set_cons_zero, List.set_cons_succ, i64_w, i32_w]
         rfl
        refine pure_ (i := 6) (N := some 52) (v := undef) (a' := ?_) #[true, true, true, true, true, true, true, false, false, false, false, false, false, false, false, false, false, false] rfl rfl (any_of HT_.out (by kernel_rfl)) (fun _ _ _ h => h) (Or.inr ⟨by rfl, rfl⟩) ?_ ?_
        rotate_left
        ·simp only [Act.put, List.setIfInBounds_toArray, List.set_cons_zero, List.set_cons_succ, i64_w, i32_w]
         rfl
        refine pure_ (i := 7) (N := some 53) (v := undef) (a' := ?_) #[true, true, true, true, true, true, true, true, false, false, false, false, false, false, false, false, false, false] rfl rfl (any_of HT_.out (by kernel_rfl)) (fun _ _ _ h => h) (Or.inr ⟨by rfl, rfl⟩) ?_ ?_
        rotate_left
        ·simp only [Act.put, List.setIfInBounds_toArray, List.set_cons_zero, List.set_cons_succ, i64_w, i32_w]
         rfl
        refine pure_ (i := 8) (N := some 54) (v := ?_) (a' := ?_) #[true, true, true, true, true, true, true, true, true, false, false, false, false, false, false, false, false, false] rfl rfl (any_of HT_.out (by kernel_rfl)) (fun _ _ _ h => h) (Or.inl ⟨by rfl, ?_⟩) ?_ ?_
        rotate_left
        ·intro w'
         go_simp
         with_reducible rfl
        rotate_left
        ·simp only [Act.put, List.setIfInBounds_toArray, List.set_cons_zero, List.set_cons_succ, i64_w, i32_w]
         rfl
        refine pure_ (i := 9) (N := some 55) (v := ?_) (a' := ?_) #[true, true, true, true, true, true, true, true, true, true, false, false, false, false, false, false, false, false] rfl rfl (any_of HT_.out (by kernel_rfl)) (fun _ _ _ h => h) (Or.inl ⟨by rfl, ?_⟩) ?_ ?_
        rotate_left
        ·intro w'
         go_simp
         with_reducible rfl
        rotate_left
        ·simp only [Act.put, List.setIfInBounds_toArray, List.set_cons_zero, List.set_cons_succ, i64_w, i32_w]
         rfl
        refine pure_ (i := 10) (N := some 56) (v := undef) (a' := ?_) #[true, true, true, true, true, true, true, true, true, true, true, false, false, false, false, false, false, false] rfl rfl (any_of HT_.out (by kernel_rfl)) (fun _ _ _ h => h) (Or.inr ⟨by rfl, rfl⟩) ?_ ?_
        rotate_left
        ·simp only [Act.put, List.setIfInBounds_toArray, List.set_cons_zero, List.set_cons_succ, i64_w, i32_w]
         rfl
        refine pure_ (i := 11) (N := some 57) (v := undef) (a' := ?_) #[true, true, true, true, true, true, true, true, true, true, true, true, false, false, false, false, false, false] rfl rfl (any_of HT_.out (by kernel_rfl)) (fun _ _ _ h => h) (Or.inr ⟨by rfl, rfl⟩) ?_ ?_
        rotate_left
        ·simp only [Act.put, List.setIfInBounds_toArray, List.set_cons_zero, List.set_cons_succ, i64_w, i32_w]
         rfl
        refine pure_ (i := 12) (N := some 58) (v := undef) (a' := ?_) #[true, true, true, true, true, true, true, true, true, true, true, true, true, false, false, false, false, false] rfl rfl (any_of HT_.out (by kernel_rfl)) (fun _ _ _ h => h) (Or.inr ⟨by rfl, rfl⟩) ?_ ?_
        rotate_left
        ·simp only [Act.put, List.setIfInBounds_toArray, List.set_cons_zero, List.set_cons_succ, i64_w, i32_w]
         rfl
        refine pure_ (i := 13) (N := some 59) (v := undef) (a' := ?_) #[true, true, true, true, true, true, true, true, true, true, true, true, true, true, false, false, false, false] rfl rfl (any_of HT_.out (by kernel_rfl)) (fun _ _ _ h => h) (Or.inr ⟨by rfl, rfl⟩) ?_ ?_
        rotate_left
        ·simp only [Act.put, List.setIfInBounds_toArray, List.set_cons_zero, List.set_cons_succ, i64_w, i32_w]
         rfl
        refine pure_ (i := 14) (N := some 60) (v := undef) (a' := ?_) #[true, true, true, true, true, true, true, true, true, true, true, true, true, true, true, false, false, false] rfl rfl (any_of HT_.out (by kernel_rfl)) (fun _ _ _ h => h) (Or.inr ⟨by rfl, rfl⟩) ?_ ?_
        rotate_left
        ·simp only [Act.put, List.setIfInBounds_toArray, List.set_cons_zero, List.set_cons_succ, i64_w, i32_w]
         rfl
        refine pure_ (i := 15) (N := some 61) (v := undef) (a' := ?_) #[true, true, true, true, true, true, true, true, true, true, true, true, true, true, true, true, false, false] rfl rfl (any_of HT_.out (by kernel_rfl)) (fun _ _ _ h => h) (Or.inr ⟨by rfl, rfl⟩) ?_ ?_
        rotate_left
        ·simp only [Act.put, List.setIfInBounds_toArray, List.set_cons_zero, List.set_cons_succ, i64_w, i32_w]
         rfl
        refine pure_ (i := 16) (N := some 62) (v := undef) (a' := ?_) #[true, true, true, true, true, true, true, true, true, true, true, true, true, true, true, true, true, false] rfl rfl (any_of HT_.out (by kernel_rfl)) (fun _ _ _ h => h) (Or.inr ⟨by rfl, rfl⟩) ?_ ?_
        rotate_left
        ·simp only [Act.put, List.setIfInBounds_toArray, List.set_cons_zero, List.set_cons_succ, i64_w, i32_w]
         rfl
        refine pure_ (i := 17) (N := some 63) (v := ?_) (a' := ?_) #[true, true, true, true, true, true, true, true, true, true, true, true, true, true, true, true, true, true] rfl rfl (any_of HT_.out (by kernel_rfl)) (fun _ _ _ h => h) (Or.inl ⟨by rfl, ?_⟩) ?_ ?_
        rotate_left
        ·intro w'
         go_simp
         with_reducible rfl
        rotate_left
        ·simp only [Act.put, List.setIfInBounds_toArray, List.set_cons_zero, List.set_cons_succ, i64_w, i32_w]
         rfl
        refine done_ (done_of HT_.out (by kernel_rfl)) ?_
        try go_wp2
        go_meet
        case rel => exact ⟨_, (false), eq_now, H', ⟨by have := HJ5.out; first | omega | exact Nat.le_refl _⟩, ⟨bk_now⟩, ⟨b_now⟩⟩
      case rest =>
       clear HC19
       try clear c1
       try clear c2
       try clear p2
       try clear c4
       try clear c5
       try clear c6
       try clear c11
       try clear c11b0
       try clear c11b1
       try clear c12
       try clear c12b0
       try clear c12b1
       try clear c13
       try clear c13b0
       try clear c13b1
       try clear c14
       try clear c14b0
       try clear c14b1
       try clear c15
       try clear c15b0
       try clear c15b1
       try clear c17
       try clear c18
       try clear c18b0
       try clear c20
       try clear c20b0
       try clear c20b1
       try clear c21
       try clear c21b0
       try clear c24
       try clear hcz16
       try clear hcz9
       try clear p2
       obtain ⟨kq, x63_18, rfl, HA, HJ18, BK460, HB⟩ := hcut
       cases kq with
       | zero => exact absurd HA.out (by simp [stockadelaw04_ShapeAhead.j1])
       | succ kj18 =>
        have H := HA.out
        clear HA
        simp only [stockadelaw04_ShapeAhead.j1] at H
        by_cases c32 : x63_18 = true
        ·subst c32
         replace H := sh_t H
         replace H := Option.bind_eq_some_iff.mp H; obtain ⟨⟨t473, t474, t475, t476, t477⟩, A330, H⟩ := H; try dsimp only at H
         have A33 := Aside0.mk A330
         clear A330
         obtain ⟨y478, hy478⟩ : ∃ y_ : List (S40), y_ = (([(⟨t473, t474, t475, t476, t477⟩ : S40)] : List (S40))) := ⟨_, rfl⟩
         replace H : (if 0 ≤ (mn (l1.length : Int) 20) then (if (mn (l1.length : Int) 20) ≤ (l1.length : Int) then ((some (l1.take ((mn (l1.length : Int) 20) : Int).toNat : List (S40))).bind fun y481 => (if y478.length + y481.length < 11728124029610 then ((shape_Check.f l0_0 (y478 ++ y481)).bind fun bt488 => (if bt488.1 = t462 then (some (bt488.2 == t463)) else (some false))) else (none))) else (none)) else (none)) = some r := by first | (rw [hy478]; with_reducible exact H) | (have H2_ := (Option.bind_some _ _).symm.trans H; rw [hy478]; with_reducible exact H2_) | (have H2_ := (Option.bind_some _ _).symm.trans H; with_reducible exact H2_) | with_reducible exact H | (rw [hy478]; exact H) | exact H
         have Ny478 := Aside0.mk hy478
         clear hy478
         obtain ⟨ji34, hji34⟩ : ∃ j_ : Int, (mn (l1.length : Int) 20) = j_ := ⟨_, rfl⟩
         replace H : (if 0 ≤ (ji34) then (if (ji34) ≤ (l1.length : Int) then ((some (l1.take ((ji34) : Int).toNat : List (S40))).bind fun y481 => (if y478.length + y481.length < 11728124029610 then ((shape_Check.f l0_0 (y478 ++ y481)).bind fun bt488 => (if bt488.1 = t462 then (some (bt488.2 == t463)) else (some false))) else (none))) else (none)) else (none)) = some r := by first | (rw [hji34] at H; exact H) | (simp only [hji34] at H ⊢; exact H)
         (try rw [hji34] at A33)
         have hji34_ : (if 20 < (l1.length : Int) then 20 else (l1.length : Int)) = ji34 := hji34
         by_cases c35 : 0 ≤ (ji34)
         ·rw [if_pos c35] at H
          have c35b0 := eq_true c35
          have c35b1 : decide (0 ≤ (ji34)) = true := decide_eq_true c35
          clear c35
          by_cases c36 : (ji34) ≤ (l1.length : Int)
          ·rw [if_pos c36] at H
           have c36b0 := eq_true c36
           have c36b1 : decide ((ji34) ≤ (l1.length : Int)) = true := decide_eq_true c36
           clear c36
           obtain ⟨y481, hy481⟩ : ∃ y_ : List (S40), y_ = (l1.take ((ji34) : Int).toNat) := ⟨_, rfl⟩
           replace H : (if y478.length + y481.length < 11728124029610 then ((shape_Check.f l0_0 (y478 ++ y481)).bind fun bt488 => (if bt488.1 = t462 then (some (bt488.2 == t463)) else (some false))) else (none)) = some r := by first | (rw [hy481]; with_reducible exact H) | (have H2_ := (Option.bind_some _ _).symm.trans H; rw [hy481]; with_reducible exact H2_) | (have H2_ := (Option.bind_some _ _).symm.trans H; with_reducible exact H2_) | with_reducible exact H | (rw [hy481]; exact H) | exact H
           have Ny481 := Aside0.mk hy481
           clear hy481
           by_cases c37 : y478.length + y481.length < 11728124029610
           ·rw [if_pos c37] at H
            have LMc37 := Aside0.mk c37
            clear c37
            obtain ⟨y485, hy485⟩ : ∃ y_ : List (S40), y_ = (y478 ++ y481) := ⟨_, rfl⟩
            replace H : ((shape_Check.f l0_0 y485).bind fun bt488 => (if bt488.1 = t462 then (some (bt488.2 == t463)) else (some false))) = some r := by first | (rw [hy485]; with_reducible exact H) | (have H2_ := (Option.bind_some _ _).symm.trans H; rw [hy485]; with_reducible exact H2_) | (have H2_ := (Option.bind_some _ _).symm.trans H; with_reducible exact H2_) | with_reducible exact H | (rw [hy485]; exact H) | exact H
            have Ny485 := Aside0.mk hy485
            clear hy485
            replace H := Option.bind_eq_some_iff.mp H; obtain ⟨⟨t488, t489⟩, A380, H⟩ := H; try dsimp only at H
            have A38 := Aside0.mk A380
            clear A380
            by_cases c39 : t488 = t462
            ·rw [if_pos c39] at H
             have c39b0 : (t488 == t462) = true := beq_iff_eq.mpr c39
             have c39b1 : (t488 != t462) = false := bne_eq_false_iff_eq.mpr c39
             clear c39
             obtain rfl := Option.some.inj H
             try go_wp2
             have n0_ := Aside0.mk (blk_drew BK460.out)
             have n1_ := Aside0.mk (below_drew1 HB.out)
             clear BK460
             clear HB
             have BK460 := n0_
             have HB := n1_
             clear n0_ n1_
             have q41 : ((ji34) : Int) ≤ ((l1.length : Int) : Int) := of_decide_eq_true (by first | (with_reducible assumption) | assumption)
             obtain ⟨i041, hi041, _, hsz41, _⟩ := info_parts info40
             have hroom41 : l1.length ≤ c1 := HC1.out
             have hC41 : Kd.C k40 _ A1 l1.length l1 := HR1.out
             have hcut41 := cut_to (P := Tryd.prog) 23 40 .i64 Tryd.underlying23 hi041 A1 l1.length c1 (ji34) (of_decide_eq_true (by first | (with_reducible assumption) | assumption)) q41 hroom41
             have hr41 := Kd.C_take (m := ((ji34) : Int).toNat) hC41 (by omega)
             have hy41 : y481.length = ((ji34) : Int).toNat := (by rw [Ny481.out, List.length_take]; omega)
             rw [← Ny481.out] at hr41
             rw [← hy41] at hcut41
             have HR484 := Aside0.mk hr41
             have HC484 := Aside0.mk (show y481.length ≤ c1 from by omega)
             clear hr41 hC41 hroom41 hi041 hsz41
             have KY41 := Aside0.mk hy41
             clear hy41
             replace q41 := eq_true q41
             refine start_ (n := 17) (S := fun w' => w'.cell? ⟨gb460, 0, none⟩ = some (.slice A0_0 l0_0.length c0_0) ∧ w'.cell? ⟨gb460, 1, none⟩ = some (.slice A0_1 l0_1.length c0_1)) (ds := []) #[false, false, false, false, false, false, false, false, false, false, false, false, false, false, false, false, false] (by kernel_rfl) rfl rfl ⟨(blk_cell BK460.out 0).trans rfl, (blk_cell BK460.out 1).trans rfl⟩ (fun hHeld => ?_); refine with_tabW stockadelaw04_ShapeAhead.tab9 stockadelaw04_ShapeAhead.bits9 (fun HT_ HW_ => ?_)
             generalize wc.drew = w40 at BK460 HB HR484 hHeld ⊢
             refine pure_ (i := 0) (N := some 65) (v := ?_) (a' := ?_) #[true, false, false, false, false, false, false, false, false, false, false, false, false, false, false, false, false] rfl rfl (any_of HT_.out (by kernel_rfl)) (fun _ _ _ h => h) (Or.inl ⟨by rfl, ?_⟩) ?_ ?_
             rotate_left
             ·intro w'
              go_simp
              with_reducible rfl
             rotate_left
             ·simp only [Act.put, List.setIfInBounds_toArray, List.set_cons_zero, List.set_cons_succ, i64_w, i32_w]
              rfl
             refine pure_ (i := 4) (N := some 69) (v := ?_) (a' := ?_) #[true, false, false, false, true, false, false, false, false, false, false, false, false, false, false, false, false] rfl rfl (any_of HT_.out (by kernel_rfl)) (fun _ _ _ h => h) (Or.inl ⟨by rfl, ?_⟩) ?_ ?_
             rotate_left
             ·intro w'
              go_simp
              with_reducible rfl
             rotate_left
             ·simp only [Act.put, List.setIfInBounds_toArray, List.set_cons_zero, List.set_cons_succ, i64_w, i32_w]
              rfl
             refine pure_ (i := 5) (N := some 70) (v := ?_) (a' := ?_) #[true, false, false, false, true, true, false, false, false, false, false, false, false, false, false, false, false] rfl rfl (any_of HT_.out (by kernel_rfl)) (fun _ _ _ h => h) (Or.inl ⟨by rfl, ?_⟩) ?_ ?_
             rotate_left
             ·intro w'
              go_simp
              with_reducible rfl
             rotate_left
             ·simp only [Act.put, List.setIfInBounds_toArray, List.set_cons_zero, List.set_cons_succ, i64_w, i32_w]
              rfl
             refine pure_ (i := 6) (N := some 71) (v := ?_) (a' := ?_) #[true, false, false, false, true, true, true, false, false, false, false, false, false, false, false, false, false] rfl rfl (any_of HT_.out (by kernel_rfl)) (fun _ _ _ h => h) (Or.inl ⟨by rfl, ?_⟩) ?_ ?_
             rotate_left
             ·intro w'
              go_simp
              with_reducible rfl
             rotate_left
             ·simp only [Act.put, List.setIfInBounds_toArray, List.set_cons_zero, List.set_cons_succ, i64_w, i32_w]
              rfl
             refine pure_ (i := 7) (N := some 72) (v := ?_) (a' := ?_) #[true, false, false, false, true, true, true, true, false, false, false, false, false, false, false, false, false] rfl rfl (any_of HT_.out (by kernel_rfl)) (fun _ _ _ h => h) (Or.inl ⟨by rfl, ?_⟩) ?_ ?_
             rotate_left
             ·intro w'
              go_simp
              with_reducible rfl
             rotate_left
             ·simp only [Act.put, List.setIfInBounds_toArray, List.set_cons_zero, List.set_cons_succ, i64_w, i32_w]
              rfl
             refine pure_ (i := 8) (N := some 73) (v := ?_) (a' := ?_) #[true, false, false, false, true, true, true, true, true, false, false, false, false, false, false, false, false] rfl rfl (any_of HT_.out (by kernel_rfl)) (fun _ _ _ h => h) (Or.inl ⟨by rfl, ?_⟩) ?_ ?_
             rotate_left
             ·intro w'
              go_simp
              with_reducible rfl
             rotate_left
             ·simp only [Act.put, List.setIfInBounds_toArray, List.set_cons_zero, List.set_cons_succ, i64_w, i32_w]
              rfl
             refine take_ (i := 1) (N := some 66) (v := ?_) (a' := ?_) #[true, true, false, false, true, true, true, true, true, false, false, false, false, false, false, false, false] rfl rfl (take_ofW HT_.out HW_.out (by kernel_rfl)) (fun _ _ _ h => h) (Or.inl ⟨by rfl, ?_⟩) hHeld ?_ ?_
             rotate_left
             ·rintro w' ⟨s0, s1⟩
              go_simp
              with_reducible rfl
             rotate_left
             ·simp only [Act.put, List.setIfInBounds_toArray, List.set_cons_zero, List.set_cons_succ, i64_w, i32_w]
              rfl
             refine one_ (i := 2) (N := some 67) #[true, true, true, false, true, true, true, true, true, false, false, false, false, false, false, false, false] rfl rfl (one_of HT_.out (by kernel_rfl)) (by decide) (fun K hK => ?_)
             refine goes_ Tryd.func24 (by kernel_rfl) rfl #[] (by rfl) rfl rfl (by (try simp only [List.map_toArray, List.map_cons, List.map_nil]); first | done | rfl | (simp only [List.length_drop, List.length_take]; rfl)) ?_
             with_reducible refine (stockadelaw04_exit.calls  t473 t474 t475 t476 t477 _ A33.out).mono ?_
             rintro e w42 ⟨rfl, hb⟩
             refine ⟨_, rfl, ?_⟩
             have n0_ := Aside0.mk (blk_below (g := gb460) (o := .cells #[.slice A0_0 l0_0.length c0_0, .slice A0_1 l0_1.length c0_1] 25 (0, 0)) bk_now hb)
             have n1_ := Aside0.mk (below_step b_now hb)
             clear BK460
             clear HB
             have BK460 := n0_
             have HB := n1_
             clear n0_ n1_
             (try clear hb)
             (try clear hb2)
             (try clear hk)
             (try clear hi)
             refine hK.out _ _ ⟨(blk_cell BK460.out 0).trans rfl, (blk_cell BK460.out 1).trans rfl⟩ (fun hHeld => ?_)
             clear hK K
             refine norm_ (a' := ?_) ?_ ?_
             rotate_left
             ·show Act.put _ (some 67) _ = _
              simp only [Act.put, List.setIfInBounds_toArray, List.set_cons_zero, List.set_cons_succ, i64_w, i32_w]
              rfl
             refine one_ (i := 3) (N := some 68) #[true, true, true, true, true, true, true, true, true, false, false, false, false, false, false, false, false] rfl rfl (one_of HT_.out (by kernel_rfl)) (by decide) (fun K hK => ?_)
             refine Kd.R_lit_step k40 _ 40 ?hg (N := 68) ?hd (xs := ([(⟨t473, t474, t475, t476, t477⟩ : S40)] : List (S40))) (inner := [.int .u8 t473, .int .u8 t474, .int .u8 t475, .int .i16 t476, .int .i32 t477]) (ok := fun _ => True) (okp := fun _ => True) ?hr ?hp (fun _ hk => hk) trivial (Below.refl _ _) (Nat.le_refl _) (by simp) ?_; (case hd => rfl); (case hg => rfl); (case hr => first | (go_simp; done) | (go_simp; rfl)); (case hp => exact (Reps.c5 (show Kd.M k40 _ _ _ (⟨t473, t474, t475, t476, t477⟩ : S40) [.int .u8 t473, .int .u8 t474, .int .u8 t475, .int .i16 t476, .int .i32 t477] from (k40_mkM _ _ _ (⟨t473, t474, t475, t476, t477⟩ : S40) )) (Reps.none _ _)))
             intro v479 w43 ho44 hb hg_ hnew_
             clear hg_ hnew_
             (first | rw [← Ny478.out] at ho44 | (simp only [Int.reduceToNat] at ho44; rw [← Ny478.out] at ho44))
             have n0_ := Aside0.mk (Kd.R_lower ho44 (below_size b_now))
             have n1_ := Aside0.mk (blk_below (g := gb460) (o := .cells #[.slice A0_0 l0_0.length c0_0, .slice A0_1 l0_1.length c0_1] 25 (0, 0)) bk_now hb)
             have n2_ := Aside0.mk (below_step b_now hb)
             clear BK460
             clear HB
             have HO480 := n0_
             have BK460 := n1_
             have HB := n2_
             clear n0_ n1_ n2_
             clear hb ho44
             refine hK.out _ _ ⟨(blk_cell BK460.out 0).trans rfl, (blk_cell BK460.out 1).trans rfl⟩ (fun hHeld => ?_)
             clear hK K
             refine norm_ (a' := ?_) ?_ ?_
             rotate_left
             ·show Act.put _ (some 68) _ = _
              simp only [Act.put, List.setIfInBounds_toArray, List.set_cons_zero, List.set_cons_succ, i64_w, i32_w]
              rfl
             refine one_ (i := 9) (N := some 74) #[true, true, true, true, true, true, true, true, true, true, false, false, false, false, false, false, false] rfl rfl (one_of HT_.out (by kernel_rfl)) (by decide) (fun K hK => ?_)
             refine Kd.R_append_rows_step k40 (w0 := w) w.heap.size (by rfl) (.tmp 68) (.tmp 73) 23 40 (.agg #[(.int .u8 0), (.int .u8 0), (.int .u8 0), (.int .i16 0), (.int .i32 0)]) 12 rfl Tryd.underlying23 info40 rfl (by decide) (by omega) v479 y478 y481 _ _ _ (fun _ => True) (fun _ => False) rfl rfl ?aO ?aR (fun _ _ h => h) (fun _ h => h.elim) ?aF ?aB ?aS ?aL ?_
             (case aR => repeat (first | exact (Kd.C_below HR484.out HB.out) | (with_reducible refine Kd.C_alloc ?_ _) | (with_reducible refine Kd.C_drewN ?_ _) | (with_reducible refine Kd.C_drew ?_)))
             (case aB => exact b_now)
             (case aF => exact (fun _ _ => trivial))
             (case aO => exact (by (with_reducible repeat (first | apply Kd.R_alloc | apply Kd.R_drewN | apply Kd.R_drew)); exact HO480.out))
             (case aS => exact (below_size b_now))
             (case aL => have := LMc37.out; omega)
             intro v486 w45 ho hb hg hat
             rw [← Ny485.out] at ho
             have n0_ := Aside0.mk (blk_grown (g := gb460) (o := .cells #[.slice A0_0 l0_0.length c0_0, .slice A0_1 l0_1.length c0_1] 25 (0, 0)) bk_now hg (Kd.R_ne HO480.out BK460.out (by decide)))
             have n1_ := Aside0.mk (hb)
             have n2_ := Aside0.mk (ho)
             clear BK460
             clear HB
             clear HO480
             have BK460 := n0_
             have HB := n1_
             have HO487 := n2_
             clear n0_ n1_ n2_
             clear ho hb hg hat
             obtain ⟨Ao46, co46, eo46⟩ := Kd.R_slice HO487.out
             (first | subst eo46 | (injection eo46 with f1_ f2_ f3_; have f4_ := f1_.symm; have f5_ := f3_.symm; clear f1_ f2_ f3_; subst f4_; subst f5_))
             refine hK.out _ _ ⟨(blk_cell BK460.out 0).trans rfl, (blk_cell BK460.out 1).trans rfl⟩ (fun hHeld => ?_)
             clear hK K
             refine norm_ (a' := ?_) ?_ ?_
             rotate_left
             ·show Act.put _ (some 74) _ = _
              simp only [Act.put, List.setIfInBounds_toArray, List.set_cons_zero, List.set_cons_succ, i64_w, i32_w]
              rfl
             refine pure_ (i := 10) (N := some 75) (v := ?_) (a' := ?_) #[true, true, true, true, true, true, true, true, true, true, true, false, false, false, false, false, false] rfl rfl (any_of HT_.out (by kernel_rfl)) (fun _ _ _ h => h) (Or.inl ⟨by rfl, ?_⟩) ?_ ?_
             rotate_left
             ·intro w'
              go_simp
              with_reducible rfl
             rotate_left
             ·simp only [Act.put, List.setIfInBounds_toArray, List.set_cons_zero, List.set_cons_succ, i64_w, i32_w]
              rfl
             refine one_ (i := 11) (N := some 76) #[true, true, true, true, true, true, true, true, true, true, true, true, false, false, false, false, false] rfl rfl (one_of HT_.out (by kernel_rfl)) (by decide) (fun K hK => ?_)
             refine goes_ Tryd.func11 (by kernel_rfl) rfl #[.agg #[.slice A0_0 l0_0.length c0_0, .slice Ao46 y485.length co46]] (by rfl) rfl rfl (by (try simp only [List.map_toArray, List.map_cons, List.map_nil]); first | done | rfl | (simp only [List.length_drop, List.length_take]; rfl)) ?_
             with_reducible refine (shape_Check.calls _ _ l0_0 _ _ y485 t488 t489 _ ?side1 ?side2 ?side3 ?side4 ?side5 A38.out).mono ?_
             (case side1 => repeat (first | exact (Kd.C_below HR0_0.out HB.out) | (with_reducible refine Kd.C_alloc ?_ _) | (with_reducible refine Kd.C_drewN ?_ _) | (with_reducible refine Kd.C_drew ?_)))
             (case side2 => exact HC0_0.out)
             (case side3 => repeat (first | exact (Kd.R_reads' HO487.out).2.2 | (with_reducible refine Kd.C_alloc ?_ _) | (with_reducible refine Kd.C_drewN ?_ _) | (with_reducible refine Kd.C_drew ?_)))
             (case side4 => exact (Kd.R_reads' HO487.out).2.1)
             (case side5 => repeat (first | exact (Kd.C_below HRG0.out HB.out) | (with_reducible refine Kd.C_alloc ?_ _) | (with_reducible refine Kd.C_drewN ?_ _) | (with_reducible refine Kd.C_drew ?_)))
             rintro e w47 ⟨rfl, hb⟩
             refine ⟨_, rfl, ?_⟩
             have n0_ := Aside0.mk (Kd.R_below (by (with_reducible repeat (first | apply Kd.R_alloc | apply Kd.R_drewN | apply Kd.R_drew)); exact HO487.out) hb)
             have n1_ := Aside0.mk (blk_below (g := gb460) (o := .cells #[.slice A0_0 l0_0.length c0_0, .slice A0_1 l0_1.length c0_1] 25 (0, 0)) bk_now hb)
             have n2_ := Aside0.mk (below_step b_now hb)
             clear HO487
             clear BK460
             clear HB
             have HO487 := n0_
             have BK460 := n1_
             have HB := n2_
             clear n0_ n1_ n2_
             (try clear hb)
             (try clear hb2)
             (try clear hk)
             (try clear hi)
             refine hK.out _ _ ⟨(blk_cell BK460.out 0).trans rfl, (blk_cell BK460.out 1).trans rfl⟩ (fun hHeld => ?_)
             clear hK K
             refine norm_ (a' := ?_) ?_ ?_
             rotate_left
             ·show Act.put _ (some 76) _ = _
              simp only [Act.put, List.setIfInBounds_toArray, List.set_cons_zero, List.set_cons_succ, i64_w, i32_w]
              rfl
             refine pure_ (i := 12) (N := some 64) (v := ?_) (a' := ?_) #[true, true, true, true, true, true, true, true, true, true, true, true, true, false, false, false, false] rfl rfl (any_of HT_.out (by kernel_rfl)) (fun _ _ _ h => h) (Or.inl ⟨by rfl, ?_⟩) ?_ ?_
             rotate_left
             ·intro w'
              go_simp
              with_reducible rfl
             rotate_left
             ·simp only [Act.put, List.setIfInBounds_toArray, List.set_cons_zero, List.set_cons_succ, i64_w, i32_w]
              rfl
             refine pure_ (i := 13) (N := some 77) (v := ?_) (a' := ?_) #[true, true, true, true, true, true, true, true, true, true, true, true, true, true, false, false, false] rfl rfl (any_of HT_.out (by kernel_rfl)) (fun _ _ _ h => h) (Or.inl ⟨by rfl, ?_⟩) ?_ ?_
             rotate_left
             ·intro w'
              go_simp
              with_reducible rfl
             rotate_left
             ·simp only [Act.put, List.setIfInBounds_toArray, List.set_cons_zero, List.set_cons_succ, i64_w, i32_w]
              rfl
             refine pure_ (i := 14) (N := some 78) (v := ?_) (a' := ?_) #[true, true, true, true, true, true, true, true, true, true, true, true, true, true, true, false, false] rfl rfl (any_of HT_.out (by kernel_rfl)) (fun _ _ _ h => h) (Or.inl ⟨by rfl, ?_⟩) ?_ ?_
             rotate_left
             ·intro w'
              go_simp
              with_reducible rfl
             rotate_left
             ·simp only [Act.put, List.setIfInBounds_toArray, List.set_cons_zero, List.set_cons_succ, i64_w, i32_w]
              rfl
             refine pure_ (i := 15) (N := some 7) (v := ?_) (a' := ?_) #[true, true, true, true, true, true, true, true, true, true, true, true, true, true, true, true, false] rfl rfl (any_of HT_.out (by kernel_rfl)) (fun _ _ _ h => h) (Or.inl ⟨by rfl, ?_⟩) ?_ ?_
             rotate_left
             ·intro w'
              go_simp
              with_reducible rfl
             rotate_left
             ·simp only [Act.put, List.setIfInBounds_toArray, List.set_cons_zero, List.set_cons_succ, i64_w, i32_w]
              rfl
             refine pure_ (i := 16) (N := some 8) (v := ?_) (a' := ?_) #[true, true, true, true, true, true, true, true, true, true, true, true, true, true, true, true, true] rfl rfl (any_of HT_.out (by kernel_rfl)) (fun _ _ _ h => h) (Or.inl ⟨by rfl, ?_⟩) ?_ ?_
             rotate_left
             ·intro w'
              go_simp
              with_reducible rfl
             rotate_left
             ·simp only [Act.put, List.setIfInBounds_toArray, List.set_cons_zero, List.set_cons_succ, i64_w, i32_w]
              rfl
             refine done_ (done_of HT_.out (by kernel_rfl)) ?_
             try go_wp2
             go_ret
             exact ⟨by first | rfl | (simp [errW_none, errW_some] <;> rfl) | (simp only [← hji34]; first | rfl | (simp [errW_none, errW_some] <;> rfl)) | (simp [*, errW_none, errW_some] <;> rfl), b_now⟩
            ·rw [if_neg c39] at H
             have c39b0 : (t488 == t462) = false := beq_eq_false_iff_ne.mpr c39
             have c39b1 : (t488 != t462) = true := bne_iff_ne.mpr c39
             obtain rfl := Option.some.inj H
             exact absurd HRT.out (by simp)
           ·rw [if_neg c37] at H
            exact absurd H (by simp)
          ·rw [if_neg c36] at H
           exact absurd H (by simp)
         ·rw [if_neg c35] at H
          exact absurd H (by simp)
        ·replace c32 := Bool.eq_false_iff.mpr c32
         subst c32
         replace H := sh_f H
         by_cases c48 : t462 ≥ (l0_1.length : Int)
         ·rw [if_pos c48] at H
          have c48b0 : decide ((l0_1.length : Int) ≤ t462) = true := decide_eq_true c48
          clear c48
          obtain rfl := Option.some.inj H
          exact absurd HRT.out (by simp)
         ·rw [if_neg c48] at H
          have c48b0 : decide ((l0_1.length : Int) ≤ t462) = false := decide_eq_false c48
          clear c48
          replace H := Option.bind_eq_some_iff.mp H; obtain ⟨⟨t490, t493⟩, A490, H⟩ := H; try dsimp only at H
          have A49 := Aside0.mk A490
          clear A490
          have H' := Aside0.mk H
          clear H
          have hcz50 := blk_all2 BK460.out
          go_wp2_with (first | ((with_reducible refine gate_callee (f := 10) rfl ?_); refine sh_call (some 93) Tryd.func10 #[.agg #[.slice A0_0 l0_0.length c0_0, .slice A0_1 l0_1.length c0_1]] ?_; (with_reducible refine (stockadelaw04_twin.calls _ _ l0_0 _ _ l0_1 t490 t493 _ ?side1 ?side2 ?side3 ?side4 A49.out).mono ?_); (case side1 => repeat (first | exact (Kd.C_below HR0_0.out HB.out) | (with_reducible refine Kd.C_alloc ?_ _) | (with_reducible refine Kd.C_drewN ?_ _) | (with_reducible refine Kd.C_drew ?_))); (case side2 => exact HC0_0.out); (case side3 => repeat (first | exact (Kd.C_below HR0_1.out HB.out) | (with_reducible refine Kd.C_alloc ?_ _) | (with_reducible refine Kd.C_drewN ?_ _) | (with_reducible refine Kd.C_drew ?_))); (case side4 => exact HC0_1.out); rintro e w51 ⟨v491, v494, rfl, ho0, ho1, hb⟩; refine ⟨_, rfl, ?_⟩; have HO492 := Aside0.mk (Kd.R_lower ho0 (below_size b_now)); have HO495 := Aside0.mk (Kd.R_lower ho1 (below_size b_now)); replace BK460 := sh_k BK460 hb; replace HB := sh_b (w := w) hb; (try clear hb); (try clear hb2); (try clear hk); (try clear hi); (try clear ho0); (try clear ho1)) | ((with_reducible refine gate_dst (N := 9) rfl ?_); (try (refine gate_guard (by rfl) ?_; dsimp only)); refine sh_box 9 #[.slice none 0 0, .slice none 0 0] 25 ?_; intro gb496 hg w52 hbox hb; have GE496 := sh_z (w := w) hg; have NB460_496 := sh_n BK460 hg; have NB496_460 := sh_s NB460_496; replace HO492 := Aside0.mk (Kd.R_below (by (with_reducible repeat (first | apply Kd.R_alloc | apply Kd.R_drewN | apply Kd.R_drew)); exact HO492.out) hb); replace HO495 := Aside0.mk (Kd.R_below (by (with_reducible repeat (first | apply Kd.R_alloc | apply Kd.R_drewN | apply Kd.R_drew)); exact HO495.out) hb); replace BK460 := sh_k BK460 hb; replace HB := sh_b (w := w) hb; have BK496 := Aside0.mk (hbox); clear hb hbox hg; obtain ⟨Ao53, co53, eo53⟩ := Kd.R_slice HO492.out; subst eo53; have hnb54 := NB496_460.out; have hnc54 := NB460_496.out; have hcz55 := blk_all2 BK496.out; obtain ⟨Ao56, co56, eo56⟩ := Kd.R_slice HO495.out; subst eo56))
          go_loopg [10] kj18 (fun kq v10 w' => ∃ (x10_3 : Int) (x497001_3 : List (S40)) (u497001 : Value), v10 = .int .i64 x10_3 ∧ Aside0 (stockadelaw04_ShapeAhead.l0 kq l1 t462 t463 x10_3 t490 x497001_3 = some r) ∧ Aside0 (kq ≤ kj18) ∧ Aside0 (Kd.R k52 52 w' w.heap.size (fun _ => True) (.slice Ao53 t490.length co53) t490) ∧ Aside0 (Kd.R k40 40 w' w.heap.size (fun _ => True) u497001 x497001_3) ∧ Aside0 (w'.heap[gb460]? = some (.cells #[(.slice A0_0 l0_0.length c0_0), (.slice A0_1 l0_1.length c0_1)] 25 (0, 0))) ∧ Aside0 (w'.heap[gb496]? = some (.cells #[(.slice Ao53 t490.length co53), u497001] 25 (0, 0))) ∧ Aside0 (Below w.heap.size w w'))
          case atStart => exact ⟨(wrap64 (t462 + 2)), (t493), (.slice Ao56 t493.length co56), eq_now, H', ⟨Nat.le_refl _⟩, ⟨by (with_reducible repeat (first | apply Kd.R_alloc | apply Kd.R_drewN | apply Kd.R_drew)); exact Kd.R_mono (Kd.R_far (p := ⟨gb496, 1, none⟩) (Kd.R_far (p := ⟨gb496, 0, none⟩) (Kd.R_types HO492.out BK496.out (by decide)) (fun _ hk => hk.2) (.slice Ao53 t490.length co53)) (fun _ hk => hk.2) (.slice Ao56 t493.length co56)) (fun _ hk => trivial)⟩, ⟨by (with_reducible repeat (first | apply Kd.R_alloc | apply Kd.R_drewN | apply Kd.R_drew)); exact Kd.R_mono (Kd.R_far (p := ⟨gb496, 1, none⟩) (Kd.R_far (p := ⟨gb496, 0, none⟩) (Kd.R_types HO495.out BK496.out (by decide)) (fun _ hk => hk.2) (.slice Ao53 t490.length co53)) (fun _ hk => hk.2) (.slice Ao56 t493.length co56)) (fun _ hk => trivial)⟩, ⟨bk_now⟩, ⟨bk_now⟩, ⟨b_now⟩⟩
          case round =>
           clear H'
           try clear c1
           try clear c2
           try clear p2
           try clear c3
           try clear c4
           try clear q4
           try clear c5
           try clear c6
           try clear p6
           try clear c10
           try clear c11
           try clear c11b0
           try clear c11b1
           try clear c12
           try clear c12b0
           try clear c12b1
           try clear c13
           try clear c13b0
           try clear c13b1
           try clear c14
           try clear c14b0
           try clear c14b1
           try clear c15
           try clear c15b0
           try clear c15b1
           try clear c17
           try clear c18
           try clear c18b0
           try clear c20
           try clear c20b0
           try clear c20b1
           try clear c21
           try clear c21b0
           try clear c24
           try clear c32
           try clear c35
           try clear c35b0
           try clear c35b1
           try clear c36
           try clear c36b0
           try clear c36b1
           try clear c37
           try clear c39
           try clear c39b0
           try clear c39b1
           try clear q41
           try clear c48
           try clear c48b0
           try clear c54
           try clear hcz16
           try clear hcz50
           try clear hcz55
           try clear hcz9
           try clear p2
           try clear q41
           obtain ⟨x10_3, x497001_3, u497001, rfl, HA, HK3, HO_497000, HO_497001, BK460, BK496, HB⟩ := hrel
           cases gk with
           | zero => exact absurd HA.out (by simp [stockadelaw04_ShapeAhead.l0])
           | succ k3 =>
            have H := HA.out
            clear HA
            simp only [stockadelaw04_ShapeAhead.l0] at H
            by_cases c57 : x10_3 < (x497001_3.length : Int)
            ·rw [if_pos c57] at H
             have c57b0 : decide (x10_3 < (x497001_3.length : Int)) = true := decide_eq_true c57
             clear c57
             by_cases c58 : (wrap64 ((wrap64 (x10_3 - t462)) - 2)) < (l1.length : Int)
             ·rw [if_pos c58] at H
              have c58b0 : decide ((wrap64 ((wrap64 (x10_3 - t462)) - 2)) < (l1.length : Int)) = true := decide_eq_true c58
              clear c58
              obtain ⟨ji59, hji59⟩ : ∃ j_ : Int, (wrap64 ((wrap64 (x10_3 - t462)) - 2)) = j_ := ⟨_, rfl⟩
              replace H : (if 0 ≤ (ji59) then (if 0 ≤ x10_3 then (stockadelaw04_ShapeAhead.l0 k3 l1 t462 t463 (wrap64 (x10_3 + 1)) t490 (x497001_3.set (x10_3 : Int).toNat (⟨(rd_T40 l1 (ji59)).f0, (rd_T40 l1 (ji59)).f1, (rd_T40 l1 (ji59)).f2, (rd_T40 l1 (ji59)).f3, (rd_T40 l1 (ji59)).f4⟩ : S40))) else (none)) else (none)) = some r := by first | (rw [hji59] at H; exact H) | (simp only [hji59] at H ⊢; exact H)
              (try rw [hji59] at c58b0)
              have hji59w : (IntKind.i64.wrap ((wrap64 (x10_3 - t462)) - 2)) = ji59 := (i64_w _).trans hji59
              by_cases c60 : 0 ≤ (ji59)
              ·rw [if_pos c60] at H
               have c60b0 : decide (0 ≤ (ji59)) = true := decide_eq_true c60
               clear c60
               by_cases c61 : 0 ≤ x10_3
               ·rw [if_pos c61] at H
                have c61b0 : decide (0 ≤ x10_3) = true := decide_eq_true c61
                clear c61
                obtain ⟨y498, hy498⟩ : ∃ y_ : List (S40), y_ = (x497001_3.set (x10_3 : Int).toNat (⟨(rd_T40 l1 (ji59)).f0, (rd_T40 l1 (ji59)).f1, (rd_T40 l1 (ji59)).f2, (rd_T40 l1 (ji59)).f3, (rd_T40 l1 (ji59)).f4⟩ : S40)) := ⟨_, rfl⟩
                replace H : (stockadelaw04_ShapeAhead.l0 k3 l1 t462 t463 (wrap64 (x10_3 + 1)) t490 y498) = some r := by first | (rw [hy498]; with_reducible exact H) | (have H2_ := (Option.bind_some _ _).symm.trans H; rw [hy498]; with_reducible exact H2_) | (have H2_ := (Option.bind_some _ _).symm.trans H; with_reducible exact H2_) | with_reducible exact H | (rw [hy498]; exact H) | exact H
                have Ny498 := Aside0.mk hy498
                clear hy498
                have H' := Aside0.mk H
                clear H
                have hnb63 := NB496_460.out
                have hnc63 := NB460_496.out
                have hcz64 := blk_all2 BK496.out
                obtain ⟨Ao65, co65, eo65⟩ := Kd.R_slice HO_497001.out
                subst eo65
                try go_wp2
                have n0_ := Aside0.mk (Kd.R_drew HO_497000.out)
                have n1_ := Aside0.mk (Kd.R_drew HO_497001.out)
                have n2_ := Aside0.mk (blk_drew BK460.out)
                have n3_ := Aside0.mk (blk_drew BK496.out)
                have n4_ := Aside0.mk (below_drew1 HB.out)
                clear HO_497000
                clear HO_497001
                clear BK460
                clear BK496
                clear HB
                have HO_497000 := n0_
                have HO_497001 := n1_
                have BK460 := n2_
                have BK496 := n3_
                have HB := n4_
                clear n0_ n1_ n2_ n3_ n4_
                have p497 : 0 ≤ ((ji59) : Int) := of_decide_eq_true (by first | (with_reducible assumption) | assumption)
                have q497 : (ji59) < (l1.length : Int) := of_decide_eq_true (by first | (with_reducible assumption) | assumption)
                obtain ⟨ad497, e497, hx497_0, hx497_1, hx497_2, hx497_3, hx497_4⟩ := at_T40 HR1.out (ji59) p497 q497
                have hw497_4 := hx497_4
                have hw497_3 := hx497_3
                have hw497_2 := hx497_2
                have hw497_1 := hx497_1
                have hw497_0 := hx497_0
                cases e497
                replace hx497_0 := (HB.out.cell (World.block_lt_of_cell? w _ hx497_0)).trans hx497_0
                replace hx497_1 := (HB.out.cell (World.block_lt_of_cell? w _ hx497_1)).trans hx497_1
                replace hx497_2 := (HB.out.cell (World.block_lt_of_cell? w _ hx497_2)).trans hx497_2
                replace hx497_3 := (HB.out.cell (World.block_lt_of_cell? w _ hx497_3)).trans hx497_3
                replace hx497_4 := (HB.out.cell (World.block_lt_of_cell? w _ hx497_4)).trans hx497_4
                replace p497 := eq_true p497
                replace q497 := eq_true q497
                have p62 : 0 ≤ (x10_3 : Int) := of_decide_eq_true (by first | (with_reducible assumption) | assumption)
                have q62 : (x10_3 : Int) < ((x497001_3.length : Int) : Int) := of_decide_eq_true (by first | (with_reducible assumption) | assumption)
                obtain ⟨go62, co62, eo62, gb62, gl62, cl62, HG62⟩ := Kd.R_form HO_497001.out (by omega)
                (first | cases eo62 | (injection eo62 with ea_ en_ ec_; (first | subst ea_ | (injection ea_ with ea_; subst ea_)); subst ec_; clear en_))
                have GB62 := Aside0.mk gb62
                have GG62 := Aside0.mk HG62
                clear gb62 gl62 HG62
                obtain ⟨ce62, hcl62, hM62, hcc62, hfr62⟩ := Kd.R_elem HO_497001.out z40 (x10_3 : Int) p62 q62
                obtain rfl := k40_openM hM62
                have hx62_0 : World.cell? _ ⟨go62, (x10_3 : Int).toNat * 5, none⟩ = some (.int .u8 ((rd_T40 x497001_3 x10_3).f0)) := hcc62 0 _ rfl
                have hx62_1 : World.cell? _ ⟨go62, (x10_3 : Int).toNat * 5 + 1, none⟩ = some (.int .u8 ((rd_T40 x497001_3 x10_3).f1)) := hcc62 1 _ rfl
                have hx62_2 : World.cell? _ ⟨go62, (x10_3 : Int).toNat * 5 + 2, none⟩ = some (.int .u8 ((rd_T40 x497001_3 x10_3).f2)) := hcc62 2 _ rfl
                have hx62_3 : World.cell? _ ⟨go62, (x10_3 : Int).toNat * 5 + 3, none⟩ = some (.int .i16 ((rd_T40 x497001_3 x10_3).f3)) := hcc62 3 _ rfl
                have hx62_4 : World.cell? _ ⟨go62, (x10_3 : Int).toNat * 5 + 4, none⟩ = some (.int .i32 ((rd_T40 x497001_3 x10_3).f4)) := hcc62 4 _ rfl
                have hf62_0 : World.frozen? _ ⟨go62, (x10_3 : Int).toNat * 5, none⟩ = false := hfr62 0
                have hf62_1 : World.frozen? _ ⟨go62, (x10_3 : Int).toNat * 5 + 1, none⟩ = false := hfr62 1
                have hf62_2 : World.frozen? _ ⟨go62, (x10_3 : Int).toNat * 5 + 2, none⟩ = false := hfr62 2
                have hf62_3 : World.frozen? _ ⟨go62, (x10_3 : Int).toNat * 5 + 3, none⟩ = false := hfr62 3
                have hf62_4 : World.frozen? _ ⟨go62, (x10_3 : Int).toNat * 5 + 4, none⟩ = false := hfr62 4
                clear hcl62 hcc62 hfr62 hM62
                replace p62 := eq_true p62
                replace q62 := eq_true q62
                obtain ⟨ce67, hcl67, hM67, hcc67, hfr67⟩ := Kd.R_elem HO_497001.out z40 (x10_3 : Int) (of_decide_eq_true (by first | (with_reducible assumption) | assumption)) (by have h_ : (x10_3 : Int) < ((x497001_3.length : Int) : Int) := of_decide_eq_true (by first | (with_reducible assumption) | assumption); first | exact h_ | (have e_ := (Kd.R_reads' HO_497001.out).1; omega) | simpa using h_)
                obtain rfl := k40_openM hM67
                have HP67 := (Kd.R_seg HO_497001.out (x10_3 : Int) (of_decide_eq_true (by first | (with_reducible assumption) | assumption)) (by have h_ : (x10_3 : Int) < ((x497001_3.length : Int) : Int) := of_decide_eq_true (by first | (with_reducible assumption) | assumption); first | exact h_ | (have e_ := (Kd.R_reads' HO_497001.out).1; omega) | simpa using h_) (seg := [.int .u8 ((rd_T40 l1 (ji59)).f0), .int .u8 ((rd_T40 l1 (ji59)).f1), .int .u8 ((rd_T40 l1 (ji59)).f2), .int .i16 ((rd_T40 l1 (ji59)).f3), .int .i32 ((rd_T40 l1 (ji59)).f4)]) (j := 0) hcl67 hcc67 (show 5 ≤ 5 from by decide) (x' := (⟨(rd_T40 l1 (ji59)).f0, (rd_T40 l1 (ji59)).f1, (rd_T40 l1 (ji59)).f2, (rd_T40 l1 (ji59)).f3, (rd_T40 l1 (ji59)).f4⟩ : S40)) (k40_mkM _ _ _ (⟨(rd_T40 l1 (ji59)).f0, (rd_T40 l1 (ji59)).f1, (rd_T40 l1 (ji59)).f2, (rd_T40 l1 (ji59)).f3, (rd_T40 l1 (ji59)).f4⟩ : S40) ) (fun _ hk => hk)).1
                rw [← Ny498.out] at HP67
                have HQ67 := Aside0.mk HP67
                clear hcl67 hcc67 hfr67 hM67 HP67
                refine start_ (n := 12) (S := fun w' => w'.cell? ⟨gb496, 0, none⟩ = some (.slice Ao53 t490.length co53) ∧ w'.cell? ⟨gb496, 1, none⟩ = some (.slice (some ⟨go62, 0, none⟩) x497001_3.length co65) ∧ w'.cell? (ad497.add (((ji59)).toNat * 5)) = some (.int .u8 ((rd_T40 l1 (ji59)).f0)) ∧ w'.cell? ⟨(ad497.add (((ji59)).toNat * 5)).block, (ad497.add (((ji59)).toNat * 5)).off + 1, none⟩ = some (.int .u8 ((rd_T40 l1 (ji59)).f1)) ∧ w'.cell? ⟨(ad497.add (((ji59)).toNat * 5)).block, (ad497.add (((ji59)).toNat * 5)).off + 2, none⟩ = some (.int .u8 ((rd_T40 l1 (ji59)).f2)) ∧ w'.cell? ⟨(ad497.add (((ji59)).toNat * 5)).block, (ad497.add (((ji59)).toNat * 5)).off + 3, none⟩ = some (.int .i16 ((rd_T40 l1 (ji59)).f3)) ∧ w'.cell? ⟨(ad497.add (((ji59)).toNat * 5)).block, (ad497.add (((ji59)).toNat * 5)).off + 4, none⟩ = some (.int .i32 ((rd_T40 l1 (ji59)).f4))) (ds := [11]) #[false, false, false, false, false, false, false, false, false, false, false, false] (by kernel_rfl) rfl rfl ⟨(blk_cell BK496.out 0).trans rfl, (blk_cell BK496.out 1).trans rfl, ((HB.out.cell (World.block_lt_of_cell? w _ hw497_0)).trans hw497_0), ((HB.out.cell (World.block_lt_of_cell? w _ hw497_1)).trans hw497_1), ((HB.out.cell (World.block_lt_of_cell? w _ hw497_2)).trans hw497_2), ((HB.out.cell (World.block_lt_of_cell? w _ hw497_3)).trans hw497_3), ((HB.out.cell (World.block_lt_of_cell? w _ hw497_4)).trans hw497_4)⟩ (fun hHeld => ?_); refine with_tabW stockadelaw04_ShapeAhead.tab17 stockadelaw04_ShapeAhead.bits17 (fun HT_ HW_ => ?_)
                generalize wr.drew = w66 at HO_497000 HO_497001 BK460 BK496 HB GG62 HQ67 hf62_0 hf62_1 hf62_2 hf62_3 hf62_4 hx497_0 hx497_1 hx497_2 hx497_3 hx497_4 hx62_0 hx62_1 hx62_2 hx62_3 hx62_4 hHeld ⊢
                refine pure_ (i := 0) (N := some 112) (v := ?_) (a' := ?_) #[true, false, false, false, false, false, false, false, false, false, false, false] rfl rfl (any_of HT_.out (by kernel_rfl)) (fun _ _ _ h => h) (Or.inl ⟨by rfl, ?_⟩) ?_ ?_
                rotate_left
                ·intro w'
                 go_simp
                 with_reducible rfl
                rotate_left
                ·simp only [Act.put, List.setIfInBounds_toArray, List.set_cons_zero, List.set_cons_succ, i64_w, i32_w]
                 rfl
                refine pure_ (i := 2) (N := some 114) (v := ?_) (a' := ?_) #[true, false, true, false, false, false, false, false, false, false, false, false] rfl rfl (any_of HT_.out (by kernel_rfl)) (fun _ _ _ h => h) (Or.inl ⟨by rfl, ?_⟩) ?_ ?_
                rotate_left
                ·intro w'
                 go_simp
                 with_reducible rfl
                rotate_left
                ·simp only [Act.put, List.setIfInBounds_toArray, List.set_cons_zero, List.set_cons_succ, i64_w, i32_w]
                 rfl
                refine pure_ (i := 3) (N := some 115) (v := ?_) (a' := ?_) #[true, false, true, true, false, false, false, false, false, false, false, false] rfl rfl (any_of HT_.out (by kernel_rfl)) (fun _ _ _ h => h) (Or.inl ⟨by rfl, ?_⟩) ?_ ?_
                rotate_left
                ·intro w'
                 go_simp
                 with_reducible rfl
                rotate_left
                ·simp only [Act.put, List.setIfInBounds_toArray, List.set_cons_zero, List.set_cons_succ, i64_w, i32_w]
                 rfl
                refine pure_ (i := 4) (N := some 116) (v := ?_) (a' := ?_) #[true, false, true, true, true, false, false, false, false, false, false, false] rfl rfl (any_of HT_.out (by kernel_rfl)) (fun _ _ _ h => h) (Or.inl ⟨by rfl, ?_⟩) ?_ ?_
                rotate_left
                ·intro w'
                 go_simp
                 with_reducible rfl
                rotate_left
                ·simp only [Act.put, List.setIfInBounds_toArray, List.set_cons_zero, List.set_cons_succ, i64_w, i32_w]
                 rfl
                refine pure_ (i := 5) (N := some 117) (v := ?_) (a' := ?_) #[true, false, true, true, true, true, false, false, false, false, false, false] rfl rfl (any_of HT_.out (by kernel_rfl)) (fun _ _ _ h => h) (Or.inl ⟨by rfl, ?_⟩) ?_ ?_
                rotate_left
                ·intro w'
                 go_simp
                 with_reducible rfl
                rotate_left
                ·simp only [Act.put, List.setIfInBounds_toArray, List.set_cons_zero, List.set_cons_succ, i64_w, i32_w]
                 rfl
                refine pure_ (i := 6) (N := some 118) (v := ?_) (a' := ?_) #[true, false, true, true, true, true, true, false, false, false, false, false] rfl rfl (any_of HT_.out (by kernel_rfl)) (fun _ _ _ h => h) (Or.inl ⟨by rfl, ?_⟩) ?_ ?_
                rotate_left
                ·intro w'
                 go_simp
                 with_reducible rfl
                rotate_left
                ·simp only [Act.put, List.setIfInBounds_toArray, List.set_cons_zero, List.set_cons_succ, i64_w, i32_w]
                 rfl
                refine pure_ (i := 7) (N := some 119) (v := ?_) (a' := ?_) #[true, false, true, true, true, true, true, true, false, false, false, false] rfl rfl (any_of HT_.out (by kernel_rfl)) (fun _ _ _ h => h) (Or.inl ⟨by rfl, ?_⟩) ?_ ?_
                rotate_left
                ·intro w'
                 go_simp
                 with_reducible rfl
                rotate_left
                ·simp only [Act.put, List.setIfInBounds_toArray, List.set_cons_zero, List.set_cons_succ, i64_w, i32_w]
                 rfl
                refine pure_ (i := 8) (N := some 120) (v := ?_) (a' := ?_) #[true, false, true, true, true, true, true, true, true, false, false, false] rfl rfl (any_of HT_.out (by kernel_rfl)) (fun _ _ _ h => h) (Or.inl ⟨by rfl, ?_⟩) ?_ ?_
                rotate_left
                ·intro w'
                 go_simp
                 with_reducible rfl
                rotate_left
                ·simp only [Act.put, List.setIfInBounds_toArray, List.set_cons_zero, List.set_cons_succ, i64_w, i32_w]
                 rfl
                refine take_ (i := 1) (N := some 113) (v := ?_) (a' := ?_) #[true, true, true, true, true, true, true, true, true, false, false, false] rfl rfl (take_ofW HT_.out HW_.out (by kernel_rfl)) (fun _ _ _ h => h) (Or.inl ⟨by rfl, ?_⟩) hHeld ?_ ?_
                rotate_left
                ·rintro w' ⟨s0, s1, s2, s3, s4, s5, s6⟩
                 go_simp
                 with_reducible rfl
                rotate_left
                ·simp only [Act.put, List.setIfInBounds_toArray, List.set_cons_zero, List.set_cons_succ, i64_w, i32_w]
                 rfl
                refine take_ (i := 9) (N := some 121) (v := ?_) (a' := ?_) #[true, true, true, true, true, true, true, true, true, true, false, false] rfl rfl (take_ofW HT_.out HW_.out (by kernel_rfl)) (fun _ _ _ h => h) (Or.inl ⟨by rfl, ?_⟩) hHeld ?_ ?_
                rotate_left
                ·rintro w' ⟨s0, s1, s2, s3, s4, s5, s6⟩
                 go_simp
                 with_reducible rfl
                rotate_left
                ·simp only [Act.put, List.setIfInBounds_toArray, List.set_cons_zero, List.set_cons_succ, i64_w, i32_w]
                 rfl
                refine pure_ (i := 10) (N := some 122) (v := ?_) (a' := ?_) #[true, true, true, true, true, true, true, true, true, true, true, false] rfl rfl (any_of HT_.out (by kernel_rfl)) (fun _ _ _ h => h) (Or.inl ⟨by rfl, ?_⟩) ?_ ?_
                rotate_left
                ·intro w'
                 go_simp
                 with_reducible rfl
                rotate_left
                ·simp only [Act.put, List.setIfInBounds_toArray, List.set_cons_zero, List.set_cons_succ, i64_w, i32_w]
                 rfl
                refine last_ (i := 11) (N := none) #[true, true, true, true, true, true, true, true, true, true, true, true] rfl rfl (one_of HT_.out (by kernel_rfl)) (by decide) (fun K hK => ?_)
                refine skip_ (w1 := ?_) (by rfl) rfl ?_ ?_
                rotate_left
                ·go_simp
                 rfl
                refine hK.out _ _ ?_
                clear hK K
                refine done_ (done_of HT_.out (by kernel_rfl)) ?_
                try go_wp2
                go_roundg k3
                case measure => have := HJ5.out; have := HJ18.out; have := HK3.out; omega
                case rel => exact ⟨(wrap64 (x10_3 + 1)), (y498), (.slice (some ⟨go62, 0, none⟩) x497001_3.length co65), eq_now, H', ⟨by have := HJ5.out; have := HJ18.out; have := HK3.out; omega⟩, ⟨by (with_reducible repeat (first | apply Kd.R_alloc | apply Kd.R_drewN | apply Kd.R_drew)); exact Kd.R_mono (Kd.R_far (p := ⟨go62, (x10_3 : Int).toNat * 5 + 4, none⟩) (Kd.R_far (p := ⟨go62, (x10_3 : Int).toNat * 5 + 3, none⟩) (Kd.R_far (p := ⟨go62, (x10_3 : Int).toNat * 5 + 2, none⟩) (Kd.R_far (p := ⟨go62, (x10_3 : Int).toNat * 5 + 1, none⟩) (Kd.R_far (p := ⟨go62, (x10_3 : Int).toNat * 5, none⟩) (Kd.R_types HO_497000.out GG62.out (by decide)) (fun _ hk => hk.2) (.int .u8 ((rd_T40 l1 (ji59)).f0))) (fun _ hk => hk.2) (.int .u8 ((rd_T40 l1 (ji59)).f1))) (fun _ hk => hk.2) (.int .u8 ((rd_T40 l1 (ji59)).f2))) (fun _ hk => hk.2) (.int .i16 ((rd_T40 l1 (ji59)).f3))) (fun _ hk => hk.2) (.int .i32 ((rd_T40 l1 (ji59)).f4))) (fun _ hk => trivial)⟩, ⟨by (with_reducible repeat (first | apply Kd.R_alloc | apply Kd.R_drewN | apply Kd.R_drew)); exact HQ67.out⟩, ⟨by (with_reducible repeat (first | refine blk_drewN ?_ _ | refine blk_drew ?_ | refine blk_alloc ?_ _)); refine blk_far ?_ (by have h_ := Kd.R_ne HO_497001.out BK460.out (by decide); intro e_; exact h_ (by rw [e_]; rfl)) _; (with_reducible repeat (first | refine blk_drewN ?_ _ | refine blk_drew ?_ | refine blk_alloc ?_ _)); refine blk_far ?_ (by have h_ := Kd.R_ne HO_497001.out BK460.out (by decide); intro e_; exact h_ (by rw [e_]; rfl)) _; (with_reducible repeat (first | refine blk_drewN ?_ _ | refine blk_drew ?_ | refine blk_alloc ?_ _)); refine blk_far ?_ (by have h_ := Kd.R_ne HO_497001.out BK460.out (by decide); intro e_; exact h_ (by rw [e_]; rfl)) _; (with_reducible repeat (first | refine blk_drewN ?_ _ | refine blk_drew ?_ | refine blk_alloc ?_ _)); refine blk_far ?_ (by have h_ := Kd.R_ne HO_497001.out BK460.out (by decide); intro e_; exact h_ (by rw [e_]; rfl)) _; (with_reducible repeat (first | refine blk_drewN ?_ _ | refine blk_drew ?_ | refine blk_alloc ?_ _)); refine blk_far ?_ (by have h_ := Kd.R_ne HO_497001.out BK460.out (by decide); intro e_; exact h_ (by rw [e_]; rfl)) _; (with_reducible repeat (first | refine blk_drewN ?_ _ | refine blk_drew ?_ | refine blk_alloc ?_ _)); exact BK460.out⟩, ⟨by (with_reducible repeat (first | refine blk_drewN ?_ _ | refine blk_drew ?_ | refine blk_alloc ?_ _)); refine blk_far ?_ (by have h_ := Kd.R_ne HO_497001.out BK496.out (by decide); intro e_; exact h_ (by rw [e_]; rfl)) _; (with_reducible repeat (first | refine blk_drewN ?_ _ | refine blk_drew ?_ | refine blk_alloc ?_ _)); refine blk_far ?_ (by have h_ := Kd.R_ne HO_497001.out BK496.out (by decide); intro e_; exact h_ (by rw [e_]; rfl)) _; (with_reducible repeat (first | refine blk_drewN ?_ _ | refine blk_drew ?_ | refine blk_alloc ?_ _)); refine blk_far ?_ (by have h_ := Kd.R_ne HO_497001.out BK496.out (by decide); intro e_; exact h_ (by rw [e_]; rfl)) _; (with_reducible repeat (first | refine blk_drewN ?_ _ | refine blk_drew ?_ | refine blk_alloc ?_ _)); refine blk_far ?_ (by have h_ := Kd.R_ne HO_497001.out BK496.out (by decide); intro e_; exact h_ (by rw [e_]; rfl)) _; (with_reducible repeat (first | refine blk_drewN ?_ _ | refine blk_drew ?_ | refine blk_alloc ?_ _)); refine blk_far ?_ (by have h_ := Kd.R_ne HO_497001.out BK496.out (by decide); intro e_; exact h_ (by rw [e_]; rfl)) _; (with_reducible repeat (first | refine blk_drewN ?_ _ | refine blk_drew ?_ | refine blk_alloc ?_ _)); exact BK496.out⟩, ⟨by repeat (first | (with_reducible first | exact HB.out | apply below_alloc | apply pw_below_drewN | apply below_drew1 | refine below_set ?_ GB62.out | refine below_set ?_ GB62.out | refine below_set ?_ GB62.out | refine below_set ?_ GB62.out | refine below_set ?_ GB62.out | refine below_set ?_ GE460.out | refine below_set ?_ GE496.out) | exact HB.out)⟩⟩
               ·rw [if_neg c61] at H
                exact absurd H (by simp)
              ·rw [if_neg c60] at H
               exact absurd H (by simp)
             ·rw [if_neg c58] at H
              have c58b0 : decide ((wrap64 ((wrap64 (x10_3 - t462)) - 2)) < (l1.length : Int)) = false := decide_eq_false c58
              clear c58
              replace H := Option.bind_eq_some_iff.mp H; obtain ⟨⟨t499, t500⟩, A680, H⟩ := H; try dsimp only at H
              have A68 := Aside0.mk A680
              clear A680
              by_cases c69 : t499 = t462
              ·rw [if_pos c69] at H
               have c69b0 : (t499 == t462) = true := beq_iff_eq.mpr c69
               have c69b1 : (t499 != t462) = false := bne_eq_false_iff_eq.mpr c69
               clear c69
               obtain rfl := Option.some.inj H
               have hnb70 := NB496_460.out
               have hnc70 := NB460_496.out
               have hcz71 := blk_all2 BK496.out
               obtain ⟨Ao72, co72, eo72⟩ := Kd.R_slice HO_497001.out
               subst eo72
               go_wp2_with (first | ((with_reducible refine gate_callee (f := 11) rfl ?_); refine sh_call (some 125) Tryd.func11 #[.agg #[.slice Ao53 t490.length co53, .slice Ao72 x497001_3.length co72]] ?_; (with_reducible refine (shape_Check.calls _ _ t490 _ _ x497001_3 t499 t500 _ ?side1 ?side2 ?side3 ?side4 ?side5 A68.out).mono ?_); (case side1 => repeat (first | exact (Kd.R_reads' HO_497000.out).2.2 | (with_reducible refine Kd.C_alloc ?_ _) | (with_reducible refine Kd.C_drewN ?_ _) | (with_reducible refine Kd.C_drew ?_))); (case side2 => exact (Kd.R_reads' HO_497000.out).2.1); (case side3 => repeat (first | exact (Kd.R_reads' HO_497001.out).2.2 | (with_reducible refine Kd.C_alloc ?_ _) | (with_reducible refine Kd.C_drewN ?_ _) | (with_reducible refine Kd.C_drew ?_))); (case side4 => exact (Kd.R_reads' HO_497001.out).2.1); (case side5 => repeat (first | exact (Kd.C_below HRG0.out HB.out) | (with_reducible refine Kd.C_alloc ?_ _) | (with_reducible refine Kd.C_drewN ?_ _) | (with_reducible refine Kd.C_drew ?_))); rintro e w73 ⟨rfl, hb⟩; refine ⟨_, rfl, ?_⟩; replace HO_497000 := Aside0.mk (Kd.R_below (by (with_reducible repeat (first | apply Kd.R_alloc | apply Kd.R_drewN | apply Kd.R_drew)); exact HO_497000.out) hb); replace HO_497001 := Aside0.mk (Kd.R_below (by (with_reducible repeat (first | apply Kd.R_alloc | apply Kd.R_drewN | apply Kd.R_drew)); exact HO_497001.out) hb); replace BK460 := sh_k BK460 hb; replace BK496 := sh_k BK496 hb; replace HB := sh_b (w := w) hb; (try clear hb); (try clear hb2); (try clear hk); (try clear hi)))
               go_ret
               exact ⟨ret_now, b_now⟩
              ·rw [if_neg c69] at H
               have c69b0 : (t499 == t462) = false := beq_eq_false_iff_ne.mpr c69
               have c69b1 : (t499 != t462) = true := bne_iff_ne.mpr c69
               obtain rfl := Option.some.inj H
               exact absurd HRT.out (by simp)
            ·rw [if_neg c57] at H
             have c57b0 : decide (x10_3 < (x497001_3.length : Int)) = false := decide_eq_false c57
             clear c57
             replace H := Option.bind_eq_some_iff.mp H; obtain ⟨⟨t501, t502⟩, A740, H⟩ := H; try dsimp only at H
             have A74 := Aside0.mk A740
             clear A740
             by_cases c75 : t501 = t462
             ·rw [if_pos c75] at H
              have c75b0 : (t501 == t462) = true := beq_iff_eq.mpr c75
              have c75b1 : (t501 != t462) = false := bne_eq_false_iff_eq.mpr c75
              clear c75
              obtain rfl := Option.some.inj H
              have hnb76 := NB496_460.out
              have hnc76 := NB460_496.out
              have hcz77 := blk_all2 BK496.out
              obtain ⟨Ao78, co78, eo78⟩ := Kd.R_slice HO_497001.out
              subst eo78
              go_wp2_with (first | ((with_reducible refine gate_callee (f := 11) rfl ?_); refine sh_call (some 125) Tryd.func11 #[.agg #[.slice Ao53 t490.length co53, .slice Ao78 x497001_3.length co78]] ?_; (with_reducible refine (shape_Check.calls _ _ t490 _ _ x497001_3 t501 t502 _ ?side1 ?side2 ?side3 ?side4 ?side5 A74.out).mono ?_); (case side1 => repeat (first | exact (Kd.R_reads' HO_497000.out).2.2 | (with_reducible refine Kd.C_alloc ?_ _) | (with_reducible refine Kd.C_drewN ?_ _) | (with_reducible refine Kd.C_drew ?_))); (case side2 => exact (Kd.R_reads' HO_497000.out).2.1); (case side3 => repeat (first | exact (Kd.R_reads' HO_497001.out).2.2 | (with_reducible refine Kd.C_alloc ?_ _) | (with_reducible refine Kd.C_drewN ?_ _) | (with_reducible refine Kd.C_drew ?_))); (case side4 => exact (Kd.R_reads' HO_497001.out).2.1); (case side5 => repeat (first | exact (Kd.C_below HRG0.out HB.out) | (with_reducible refine Kd.C_alloc ?_ _) | (with_reducible refine Kd.C_drewN ?_ _) | (with_reducible refine Kd.C_drew ?_))); rintro e w79 ⟨rfl, hb⟩; refine ⟨_, rfl, ?_⟩; replace HO_497000 := Aside0.mk (Kd.R_below (by (with_reducible repeat (first | apply Kd.R_alloc | apply Kd.R_drewN | apply Kd.R_drew)); exact HO_497000.out) hb); replace HO_497001 := Aside0.mk (Kd.R_below (by (with_reducible repeat (first | apply Kd.R_alloc | apply Kd.R_drewN | apply Kd.R_drew)); exact HO_497001.out) hb); replace BK460 := sh_k BK460 hb; replace BK496 := sh_k BK496 hb; replace HB := sh_b (w := w) hb; (try clear hb); (try clear hb2); (try clear hk); (try clear hi)))
              go_ret
              exact ⟨ret_now, b_now⟩
             ·rw [if_neg c75] at H
              have c75b0 : (t501 == t462) = false := beq_eq_false_iff_ne.mpr c75
              have c75b1 : (t501 != t462) = true := bne_iff_ne.mpr c75
              obtain rfl := Option.some.inj H
              exact absurd HRT.out (by simp)
 ·replace c4 := Bool.eq_false_iff.mpr c4
  subst c4
  replace H := sh_f H
  obtain rfl := Option.some.inj H
  exact absurd HRT.out (by simp)

end Go.Proofs.YtdhiibkcoolbeaaDoor.P
