/- Made by this session's driver over the kit's printer: for each Go function a Lean function with the same answers, and a proof that the Go call comes to these answers; no conditions but the ones each theorem names. -/
import Derived.Test.YtdhiibkcoolbeaaDoorPx0
import Derived.Test.YtdhiibkcoolbeaaDoorPx4
import Derived.Test.YtdhiibkcoolbeaaDoorPx7
import Derived.Test.YtdhiibkcoolbeaaDoorPx9
import Derived.Test.YtdhiibkcoolbeaaDoorPx16
import Derived.Test.YtdhiibkcoolbeaaDoorPx19
import Derived.Test.YtdhiibkcoolbeaaDoorPxXXSt
namespace Go.Proofs.YtdhiibkcoolbeaaDoor.P
open Go.RowKit Go.Proofs.YtdhiibkcoolbeaaDoorW.PrintWords Go.Proofs.YtdhiibkcoolbeaaDoorW.PrintLast Go.Proofs.YtdhiibkcoolbeaaDoorW.PrintMore
attribute [local go_sem] max2_int min2_int max_two min_two max_three min_three max_four min_four   -- for this text's walks alone
set_option linter.unusedVariables false
set_option linter.unusedSimpArgs false

/-! ### stockadelaw04_ShapeJumps: function 8 -/
mutual
def stockadelaw04_ShapeJumps.j0 : Nat → Bool → List (S52) → List (S40) → Option (Bool)
 | 0, _, _, _ => none
 | k + 1, x23, x549000, x549001 => if x23 = true then ((stockadelaw04_right.f x549000 x549001).bind fun t550 => (some (!t550))) else ((stockadelaw04_twin.f x549000 x549001).bind fun bt551 => ((shape_Starts.f x549001).bind fun t558 => (if (t558.length : Int) = (x549001.length : Int) then (stockadelaw04_ShapeJumps.l0 k t558 true 0 x549001 (x549001.length : Int) 0 x549000 x549001 bt551.1 bt551.2) else (some false))))
def stockadelaw04_ShapeJumps.l0 : Nat → List Bool → Bool → Int → List (S40) → Int → Int → List (S52) → List (S40) → List (S52) → List (S40) → Option (Bool)
 | 0, _, _, _, _, _, _, _, _, _, _ => none
 | k + 1, x4, x5, x6, x39, x40, x41, x549000, x549001, x558000, x558001 => if x41 < x40 then (if 0 ≤ x41 then (if x41 < (x39.length : Int) then (if x41 < (x4.length : Int) then (if rdOf false x4 x41 = true then ((insn_Of.f k ((rd_T40 x39 x41).f0) ((rd_T40 x39 x41).f1) ((rd_T40 x39 x41).f2) ((rd_T40 x39 x41).f3) ((rd_T40 x39 x41).f4)).bind fun bt567 => (if bt567.2.2.2.2.2 = 0 then (if bt567.1 = 6 then (stockadelaw04_ShapeJumps.j2 k x4 x5 x41 x41 x39 x40 x41 false x549000 x549001 x558000 x558001 ((rd_T40 x39 x41).f0) ((rd_T40 x39 x41).f1) ((rd_T40 x39 x41).f2) ((rd_T40 x39 x41).f3) ((rd_T40 x39 x41).f4) bt567.1 bt567.2.1 bt567.2.2.1 bt567.2.2.2.1 bt567.2.2.2.2.1) else (stockadelaw04_ShapeJumps.j2 k x4 x5 x41 x41 x39 x40 x41 (bt567.1 != 7) x549000 x549001 x558000 x558001 ((rd_T40 x39 x41).f0) ((rd_T40 x39 x41).f1) ((rd_T40 x39 x41).f2) ((rd_T40 x39 x41).f3) ((rd_T40 x39 x41).f4) bt567.1 bt567.2.1 bt567.2.2.1 bt567.2.2.2.1 bt567.2.2.2.2.1)) else (stockadelaw04_ShapeJumps.j2 k x4 x5 x41 x41 x39 x40 x41 true x549000 x549001 x558000 x558001 ((rd_T40 x39 x41).f0) ((rd_T40 x39 x41).f1) ((rd_T40 x39 x41).f2) ((rd_T40 x39 x41).f3) ((rd_T40 x39 x41).f4) bt567.1 bt567.2.1 bt567.2.2.1 bt567.2.2.2.1 bt567.2.2.2.2.1))) else (stockadelaw04_ShapeJumps.l0 k x4 x5 x6 x39 x40 (wrap64 (x41 + 1)) x549000 x549001 x558000 x558001)) else (none)) else (none)) else (none)) else (if 0 ≤ x6 then (if x6 < (x4.length : Int) then (if rdOf false x4 x6 = true then ((stockadelaw04_right.f x549000 x549001).bind fun t562 => ((stockadelaw04_right.f x558000 x558001).bind fun t563 => (if t563 = true then (some (t562 == x5)) else (some (t562 == false))))) else (some false)) else (none)) else (none))
def stockadelaw04_ShapeJumps.j2 : Nat → List Bool → Bool → Int → Int → List (S40) → Int → Int → Bool → List (S52) → List (S40) → List (S52) → List (S40) → Int → Int → Int → Int → Int → Int → Int → Int → Bool → Bool → Option (Bool)
 | 0, _, _, _, _, _, _, _, _, _, _, _, _, _, _, _, _, _, _, _, _, _, _ => none
 | k + 1, x4, x5, x6, x7, x39, x40, x41, x68, x549000, x549001, x558000, x558001, x566000, x566001, x566002, x566003, x566004, x574000, x574001, x574002, x574003, x574004 => if x68 = true then (stockadelaw04_ShapeJumps.l0 k x4 x5 x6 x39 x40 (wrap64 (x41 + 1)) x549000 x549001 x558000 x558001) else ((shape_Target.f x7 x566000 x566001 x566002 x566003 x566004).bind fun t574 => (if x5 = true then (if t574 ≥ 0 then (if t574 < (x4.length : Int) then (if 0 ≤ t574 then (if 0 ≤ x7 then (if x7 < (x558001.length : Int) then ((some (x558001.set (x7 : Int).toNat (⟨7, 0, 0, 0, 0⟩ : S40) : List (S40))).bind fun y576 => (if x574000 = 7 then (if x7 = (wrap64 ((x549001.length : Int) - 1)) then ((stockadelaw04_exit.f).bind fun bt577 => (stockadelaw04_ShapeJumps.l0 k x4 (rdOf false x4 t574) x6 x39 x40 (wrap64 (x41 + 1)) x549000 x549001 x558000 (y576.set (x7 : Int).toNat (⟨bt577.1, bt577.2.1, bt577.2.2.1, bt577.2.2.2.1, bt577.2.2.2.2⟩ : S40)))) else (stockadelaw04_ShapeJumps.l0 k x4 (rdOf false x4 t574) x6 x39 x40 (wrap64 (x41 + 1)) x549000 x549001 x558000 y576)) else (stockadelaw04_ShapeJumps.l0 k x4 (rdOf false x4 t574) x6 x39 x40 (wrap64 (x41 + 1)) x549000 x549001 x558000 y576))) else (none)) else (none)) else (none)) else (if 0 ≤ x7 then (if x7 < (x558001.length : Int) then ((some (x558001.set (x7 : Int).toNat (⟨7, 0, 0, 0, 0⟩ : S40) : List (S40))).bind fun y583 => (if x574000 = 7 then (if x7 = (wrap64 ((x549001.length : Int) - 1)) then ((stockadelaw04_exit.f).bind fun bt584 => (stockadelaw04_ShapeJumps.l0 k x4 false x6 x39 x40 (wrap64 (x41 + 1)) x549000 x549001 x558000 (y583.set (x7 : Int).toNat (⟨bt584.1, bt584.2.1, bt584.2.2.1, bt584.2.2.2.1, bt584.2.2.2.2⟩ : S40)))) else (stockadelaw04_ShapeJumps.l0 k x4 false x6 x39 x40 (wrap64 (x41 + 1)) x549000 x549001 x558000 y583)) else (stockadelaw04_ShapeJumps.l0 k x4 false x6 x39 x40 (wrap64 (x41 + 1)) x549000 x549001 x558000 y583))) else (none)) else (none))) else (if 0 ≤ x7 then (if x7 < (x558001.length : Int) then ((some (x558001.set (x7 : Int).toNat (⟨7, 0, 0, 0, 0⟩ : S40) : List (S40))).bind fun y590 => (if x574000 = 7 then (if x7 = (wrap64 ((x549001.length : Int) - 1)) then ((stockadelaw04_exit.f).bind fun bt591 => (stockadelaw04_ShapeJumps.l0 k x4 false x6 x39 x40 (wrap64 (x41 + 1)) x549000 x549001 x558000 (y590.set (x7 : Int).toNat (⟨bt591.1, bt591.2.1, bt591.2.2.1, bt591.2.2.2.1, bt591.2.2.2.2⟩ : S40)))) else (stockadelaw04_ShapeJumps.l0 k x4 false x6 x39 x40 (wrap64 (x41 + 1)) x549000 x549001 x558000 y590)) else (stockadelaw04_ShapeJumps.l0 k x4 false x6 x39 x40 (wrap64 (x41 + 1)) x549000 x549001 x558000 y590))) else (none)) else (none))) else (if 0 ≤ x7 then (if x7 < (x558001.length : Int) then ((some (x558001.set (x7 : Int).toNat (⟨7, 0, 0, 0, 0⟩ : S40) : List (S40))).bind fun y597 => (if x574000 = 7 then (if x7 = (wrap64 ((x549001.length : Int) - 1)) then ((stockadelaw04_exit.f).bind fun bt598 => (stockadelaw04_ShapeJumps.l0 k x4 false x6 x39 x40 (wrap64 (x41 + 1)) x549000 x549001 x558000 (y597.set (x7 : Int).toNat (⟨bt598.1, bt598.2.1, bt598.2.2.1, bt598.2.2.2.1, bt598.2.2.2.2⟩ : S40)))) else (stockadelaw04_ShapeJumps.l0 k x4 false x6 x39 x40 (wrap64 (x41 + 1)) x549000 x549001 x558000 y597)) else (stockadelaw04_ShapeJumps.l0 k x4 false x6 x39 x40 (wrap64 (x41 + 1)) x549000 x549001 x558000 y597))) else (none)) else (none))))
end
def stockadelaw04_ShapeJumps.f (k : Nat) (l0_0 : List (S52)) (l0_1 : List (S40)) : Option (Bool) := (stockadelaw04_awake.f).bind fun t549 => (if t549 = true then (if (l0_1.length : Int) = 0 then (stockadelaw04_ShapeJumps.j0 k true l0_0 l0_1) else (stockadelaw04_ShapeJumps.j0 k (decide ((l0_1.length : Int) > 512)) l0_0 l0_1)) else (some false))
theorem stockadelaw04_ShapeJumps.mono_l : ∀ k, (∀ y0 y1 y2, LeO (stockadelaw04_ShapeJumps.j0 k y0 y1 y2) (stockadelaw04_ShapeJumps.j0 (k + 1) y0 y1 y2)) ∧ (∀ y0 y1 y2 y3 y4 y5 y6 y7 y8 y9, LeO (stockadelaw04_ShapeJumps.l0 k y0 y1 y2 y3 y4 y5 y6 y7 y8 y9) (stockadelaw04_ShapeJumps.l0 (k + 1) y0 y1 y2 y3 y4 y5 y6 y7 y8 y9)) ∧ (∀ y0 y1 y2 y3 y4 y5 y6 y7 y8 y9 y10 y11 y12 y13 y14 y15 y16 y17 y18 y19 y20 y21, LeO (stockadelaw04_ShapeJumps.j2 k y0 y1 y2 y3 y4 y5 y6 y7 y8 y9 y10 y11 y12 y13 y14 y15 y16 y17 y18 y19 y20 y21) (stockadelaw04_ShapeJumps.j2 (k + 1) y0 y1 y2 y3 y4 y5 y6 y7 y8 y9 y10 y11 y12 y13 y14 y15 y16 y17 y18 y19 y20 y21))
 | 0 => ⟨fun _ _ _ r h => by simp [stockadelaw04_ShapeJumps.j0] at h, fun _ _ _ _ _ _ _ _ _ _ r h => by simp [stockadelaw04_ShapeJumps.l0] at h, fun _ _ _ _ _ _ _ _ _ _ _ _ _ _ _ _ _ _ _ _ _ _ r h => by simp [stockadelaw04_ShapeJumps.j2] at h⟩
 | k + 1 => by
  obtain ⟨ih0, ih1, ih2⟩ := stockadelaw04_ShapeJumps.mono_l k
  refine ⟨?_, ?_, ?_⟩
  ·intro y0 y1 y2
   unfold stockadelaw04_ShapeJumps.j0
   repeat' first
   | (with_reducible exact ih0 _ _ _)
   | (with_reducible exact ih1 _ _ _ _ _ _ _ _ _ _)
   | (with_reducible exact ih2 _ _ _ _ _ _ _ _ _ _ _ _ _ _ _ _ _ _ _ _ _ _)
   | (with_reducible exact insn_Of.mono _ _ _ _ _ _)
   | (with_reducible exact LeO.refl _)
   | (with_reducible exact LeO.none _)
   | (with_reducible refine LeO.ite ?_ ?_)
   | (with_reducible refine LeO.bind ?_ (fun _ => ?_))
   | exact ih0 _ _ _
   | exact ih1 _ _ _ _ _ _ _ _ _ _
   | exact ih2 _ _ _ _ _ _ _ _ _ _ _ _ _ _ _ _ _ _ _ _ _ _
   | exact insn_Of.mono _ _ _ _ _ _
   | exact LeO.none _
   | refine LeO.ite ?_ ?_
   | refine LeO.bind ?_ (fun _ => ?_)
  ·intro y0 y1 y2 y3 y4 y5 y6 y7 y8 y9
   unfold stockadelaw04_ShapeJumps.l0
   repeat' first
   | (with_reducible exact ih0 _ _ _)
   | (with_reducible exact ih1 _ _ _ _ _ _ _ _ _ _)
   | (with_reducible exact ih2 _ _ _ _ _ _ _ _ _ _ _ _ _ _ _ _ _ _ _ _ _ _)
   | (with_reducible exact insn_Of.mono _ _ _ _ _ _)
   | (with_reducible exact LeO.refl _)
   | (with_reducible exact LeO.none _)
   | (with_reducible refine LeO.ite ?_ ?_)
   | (with_reducible refine LeO.bind ?_ (fun _ => ?_))
   | exact ih0 _ _ _
   | exact ih1 _ _ _ _ _ _ _ _ _ _
   | exact ih2 _ _ _ _ _ _ _ _ _ _ _ _ _ _ _ _ _ _ _ _ _ _
   | exact insn_Of.mono _ _ _ _ _ _
   | exact LeO.none _
   | refine LeO.ite ?_ ?_
   | refine LeO.bind ?_ (fun _ => ?_)
  ·intro y0 y1 y2 y3 y4 y5 y6 y7 y8 y9 y10 y11 y12 y13 y14 y15 y16 y17 y18 y19 y20 y21
   unfold stockadelaw04_ShapeJumps.j2
   repeat' first
   | (with_reducible exact ih0 _ _ _)
   | (with_reducible exact ih1 _ _ _ _ _ _ _ _ _ _)
   | (with_reducible exact ih2 _ _ _ _ _ _ _ _ _ _ _ _ _ _ _ _ _ _ _ _ _ _)
   | (with_reducible exact insn_Of.mono _ _ _ _ _ _)
   | (with_reducible exact LeO.refl _)
   | (with_reducible exact LeO.none _)
   | (with_reducible refine LeO.ite ?_ ?_)
   | (with_reducible refine LeO.bind ?_ (fun _ => ?_))
   | exact ih0 _ _ _
   | exact ih1 _ _ _ _ _ _ _ _ _ _
   | exact ih2 _ _ _ _ _ _ _ _ _ _ _ _ _ _ _ _ _ _ _ _ _ _
   | exact insn_Of.mono _ _ _ _ _ _
   | exact LeO.none _
   | refine LeO.ite ?_ ?_
   | refine LeO.bind ?_ (fun _ => ?_)
theorem stockadelaw04_ShapeJumps.mono : ∀ a0 a1 k, LeO (stockadelaw04_ShapeJumps.f k a0 a1) (stockadelaw04_ShapeJumps.f (k + 1) a0 a1) := by
 intro a0 a1 k
 obtain ⟨ih0, ih1, ih2⟩ := stockadelaw04_ShapeJumps.mono_l k
 unfold stockadelaw04_ShapeJumps.f
 repeat' first
   | (with_reducible exact ih0 _ _ _)
   | (with_reducible exact ih1 _ _ _ _ _ _ _ _ _ _)
   | (with_reducible exact ih2 _ _ _ _ _ _ _ _ _ _ _ _ _ _ _ _ _ _ _ _ _ _)
   | (with_reducible exact insn_Of.mono _ _ _ _ _ _)
   | (with_reducible exact LeO.refl _)
   | (with_reducible exact LeO.none _)
   | (with_reducible refine LeO.ite ?_ ?_)
   | (with_reducible refine LeO.bind ?_ (fun _ => ?_))
   | exact ih0 _ _ _
   | exact ih1 _ _ _ _ _ _ _ _ _ _
   | exact ih2 _ _ _ _ _ _ _ _ _ _ _ _ _ _ _ _ _ _ _ _ _ _
   | exact insn_Of.mono _ _ _ _ _ _
   | exact LeO.none _
   | refine LeO.ite ?_ ?_
   | refine LeO.bind ?_ (fun _ => ?_)
def stockadelaw04_ShapeJumps.T23 : Bool × List (List Nat × List Nat) := (true, [([], []), ([], []), ([0, 1], [0, 1]), ([2], [2]), ([3], [3]), ([4], [4]), ([5, 4, 4], [4, 5]), ([4], [4]), ([7, 6, 4], [4, 7]), ([8, 8, 4], [4, 8]), ([9], [9]), ([9, 10, 4], [4, 9, 10]), ([6, 11, 4], [4, 6, 11]), ([4, 12], [4, 12]), ([13, 9, 0, 1, 2, 3, 4, 5, 6, 7, 8, 9, 10, 11, 12, 13], [13])])
def stockadelaw04_ShapeJumps.B23 : List Nat := [0, 0, 3, 7, 15, 31, 63, 31, 255, 511, 1023, 2047, 4095, 8191, 16383]
theorem stockadelaw04_ShapeJumps.tab23 : rtab .any (opsOf Tryd.f8 23) = stockadelaw04_ShapeJumps.T23 := by kernel_rfl
theorem stockadelaw04_ShapeJumps.bits23 : waitsOk stockadelaw04_ShapeJumps.T23.2 stockadelaw04_ShapeJumps.B23 = true := by kernel_rfl
set_option maxHeartbeats 8000000 in
set_option maxRecDepth 100000 in
theorem stockadelaw04_ShapeJumps.calls (k : Nat) (A0_0 : Option Addr) (c0_0 : Nat) (l0_0 : List (S52)) (A0_1 : Option Addr) (c0_1 : Nat) (l0_1 : List (S40)) (r : Bool) (w : World) (hr0_0 : Kd.C k52 w A0_0 l0_0.length l0_0) (hc0_0 : l0_0.length ≤ c0_0) (hr0_1 : Kd.C k40 w A0_1 l0_1.length l0_1) (hc0_1 : l0_1.length ≤ c0_1) (hrG0 : Kd.C (Kd.int .i64) w (some ⟨0, 0, none⟩) gl0.length gl0) (hr_ : r = true) (h : stockadelaw04_ShapeJumps.f k l0_0 l0_1 = some r) :
  Calls Tryd.prog 8 #[.agg #[.slice A0_0 l0_0.length c0_0, .slice A0_1 l0_1.length c0_1]] w fun e w' => e = .returned (.bool r) ∧ Below w.heap.size w w' := by
 have hu25 := Tryd.underlying25
 have hu40 := Tryd.underlying40
 have hu45 := Tryd.underlying45
 have HR0_0 := Aside0.mk hr0_0
 have HC0_0 := Aside0.mk hc0_0
 clear hr0_0 hc0_0
 have HR0_1 := Aside0.mk hr0_1
 have HC0_1 := Aside0.mk hc0_1
 clear hr0_1 hc0_1
 have HRG0 := Aside0.mk hrG0
 clear hrG0
 have HRT := Aside0.mk hr_
 clear hr_
 have HB := Aside0.mk (Below.refl w.heap.size w)
 have H : ((stockadelaw04_awake.f).bind fun t549 => (if t549 = true then (if (l0_1.length : Int) = 0 then (stockadelaw04_ShapeJumps.j0 k true l0_0 l0_1) else (stockadelaw04_ShapeJumps.j0 k (decide ((l0_1.length : Int) > 512)) l0_0 l0_1)) else (some false))) = some r := h
 clear h
 replace H := Option.bind_eq_some_iff.mp H; obtain ⟨t549, A20, H⟩ := H; try dsimp only at H
 have A2 := Aside0.mk A20
 clear A20
 by_cases c3 : t549 = true
 ·subst c3
  replace H := sh_t H
  have HC4 := Aside0.mk H
  clear H
  go_enter Tryd.func8, Tryd.ntmps8
  go_upto_region 3 with (first | ((with_reducible refine gate_dst (N := 1) rfl ?_); (try (refine gate_guard (by rfl) ?_; dsimp only)); refine sh_box 1 #[.slice A0_0 l0_0.length c0_0, .slice A0_1 l0_1.length c0_1] 25 ?_; intro gb548 hg w5 hbox hb; have GE548 := sh_z (w := w) hg; replace HB := sh_b (w := w) hb; have BK548 := Aside0.mk (hbox); clear hb hbox hg) | ((with_reducible refine gate_callee (f := 13) rfl ?_); refine sh_call (some 12) Tryd.func13 #[] ?_; (with_reducible refine (stockadelaw04_awake.calls  true _ ?side1 (by first | rfl | exact HRT.out) A2.out).mono ?_); (case side1 => repeat (first | exact (Kd.C_below HRG0.out HB.out) | (with_reducible refine Kd.C_alloc ?_ _) | (with_reducible refine Kd.C_drewN ?_ _) | (with_reducible refine Kd.C_drew ?_))); rintro e w6 ⟨rfl, hb⟩; refine ⟨_, rfl, ?_⟩; replace BK548 := sh_k BK548 hb; replace HB := sh_b (w := w) hb; (try clear hb); (try clear hb2); (try clear hk); (try clear hi)))
  (try simp only [Act.put, List.setIfInBounds_toArray, List.set_cons_zero, List.set_cons_succ])
  go_cut [23] (fun v23 wc => ∃ (kq : Nat) (x23_3 : Bool), v23 = .bool x23_3 ∧ Aside0 (stockadelaw04_ShapeJumps.j0 kq x23_3 l0_0 l0_1 = some r) ∧ Aside0 (kq ≤ k) ∧ Aside0 (wc.heap[gb548]? = some (.cells #[(.slice A0_0 l0_0.length c0_0), (.slice A0_1 l0_1.length c0_1)] 25 (0, 0))) ∧ Aside0 (Below w.heap.size w wc))
  case first =>
   have H := HC4.out
   clear HC4
   by_cases c7 : (l0_1.length : Int) = 0
   ·rw [if_pos c7] at H
    have c7b0 : ((l0_1.length : Int) == 0) = true := beq_iff_eq.mpr c7
    have c7b1 : ((l0_1.length : Int) != 0) = false := bne_eq_false_iff_eq.mpr c7
    clear c7
    (first | rw [c7b0] | (simp only [i64_w, i32_w]; rw [c7b0]) | skip)
    have H' := Aside0.mk H
    clear H
    have hcz8 := blk_all2 BK548.out
    go_wp2
    go_meet
    case rel => exact ⟨_, (true), eq_now, H', ⟨by first | omega | exact Nat.le_refl _⟩, ⟨bk_now⟩, ⟨b_now⟩⟩
   ·rw [if_neg c7] at H
    have c7b0 : ((l0_1.length : Int) == 0) = false := beq_eq_false_iff_ne.mpr c7
    have c7b1 : ((l0_1.length : Int) != 0) = true := bne_iff_ne.mpr c7
    have c7b2 : ¬ (l0_1 = []) := fun h_ => c7 (by rw [h_]; rfl)
    (first | rw [c7b0] | (simp only [i64_w, i32_w]; rw [c7b0]) | skip)
    have H' := Aside0.mk H
    clear H
    have hcz9 := blk_all2 BK548.out
    go_wp2
    go_meet
    case rel => exact ⟨_, (decide ((l0_1.length : Int) > 512)), eq_now, H', ⟨by first | omega | exact Nat.le_refl _⟩, ⟨bk_now⟩, ⟨b_now⟩⟩
  case rest =>
   clear HC4
   try clear c1
   try clear p2
   try clear c3
   try clear c7
   try clear c7b0
   try clear c7b1
   try clear c7b2
   try clear c8
   try clear hcz8
   try clear hcz9
   obtain ⟨kq, x23_3, rfl, HA, HJ3, BK548, HB⟩ := hcut
   cases kq with
   | zero => exact absurd HA.out (by simp [stockadelaw04_ShapeJumps.j0])
   | succ kj3 =>
    have H := HA.out
    clear HA
    simp only [stockadelaw04_ShapeJumps.j0] at H
    by_cases c10 : x23_3 = true
    ·subst c10
     replace H := sh_t H
     replace H := Option.bind_eq_some_iff.mp H; obtain ⟨t550, A110, H⟩ := H; try dsimp only at H
     have A11 := Aside0.mk A110
     clear A110
     obtain rfl := Option.some.inj H
     have hcz12 := blk_all2 BK548.out
     go_wp2_with (first | ((with_reducible refine gate_callee (f := 21) rfl ?_); refine sh_call (some 25) Tryd.func21 #[.agg #[.slice A0_0 l0_0.length c0_0, .slice A0_1 l0_1.length c0_1]] ?_; (with_reducible refine (stockadelaw04_right.calls _ _ l0_0 _ _ l0_1 t550 _ ?side1 ?side2 ?side3 ?side4 ?side5 A11.out).mono ?_); (case side1 => repeat (first | exact (Kd.C_below HR0_0.out HB.out) | (with_reducible refine Kd.C_alloc ?_ _) | (with_reducible refine Kd.C_drewN ?_ _) | (with_reducible refine Kd.C_drew ?_))); (case side2 => exact HC0_0.out); (case side3 => repeat (first | exact (Kd.C_below HR0_1.out HB.out) | (with_reducible refine Kd.C_alloc ?_ _) | (with_reducible refine Kd.C_drewN ?_ _) | (with_reducible refine Kd.C_drew ?_))); (case side4 => exact HC0_1.out); (case side5 => repeat (first | exact (Kd.C_below HRG0.out HB.out) | (with_reducible refine Kd.C_alloc ?_ _) | (with_reducible refine Kd.C_drewN ?_ _) | (with_reducible refine Kd.C_drew ?_))); rintro e w13 ⟨rfl, hb⟩; refine ⟨_, rfl, ?_⟩; replace BK548 := sh_k BK548 hb; replace HB := sh_b (w := w) hb; (try clear hb); (try clear hb2); (try clear hk); (try clear hi)))
     go_ret
     exact ⟨ret_now, b_now⟩
    ·replace c10 := Bool.eq_false_iff.mpr c10
     subst c10
     replace H := sh_f H
     replace H := Option.bind_eq_some_iff.mp H; obtain ⟨⟨t551, t554⟩, A140, H⟩ := H; try dsimp only at H
     have A14 := Aside0.mk A140
     clear A140
     replace H := Option.bind_eq_some_iff.mp H; obtain ⟨t558, A150, H⟩ := H; try dsimp only at H
     have A15 := Aside0.mk A150
     clear A150
     by_cases c16 : (t558.length : Int) = (l0_1.length : Int)
     ·rw [if_pos c16] at H
      have c16b0 : ((t558.length : Int) == (l0_1.length : Int)) = true := beq_iff_eq.mpr c16
      have c16b1 : ((t558.length : Int) != (l0_1.length : Int)) = false := bne_eq_false_iff_eq.mpr c16
      have c16b2 : (t558.length == l0_1.length) = true := by first | simpa using c16 | (simp at c16 ⊢; omega)
      clear c16
      have H' := Aside0.mk H
      clear H
      have hcz17 := blk_all2 BK548.out
      go_wp2_with (first | ((with_reducible refine gate_callee (f := 10) rfl ?_); refine sh_call (some 28) Tryd.func10 #[.agg #[.slice A0_0 l0_0.length c0_0, .slice A0_1 l0_1.length c0_1]] ?_; (with_reducible refine (stockadelaw04_twin.calls _ _ l0_0 _ _ l0_1 t551 t554 _ ?side1 ?side2 ?side3 ?side4 A14.out).mono ?_); (case side1 => repeat (first | exact (Kd.C_below HR0_0.out HB.out) | (with_reducible refine Kd.C_alloc ?_ _) | (with_reducible refine Kd.C_drewN ?_ _) | (with_reducible refine Kd.C_drew ?_))); (case side2 => exact HC0_0.out); (case side3 => repeat (first | exact (Kd.C_below HR0_1.out HB.out) | (with_reducible refine Kd.C_alloc ?_ _) | (with_reducible refine Kd.C_drewN ?_ _) | (with_reducible refine Kd.C_drew ?_))); (case side4 => exact HC0_1.out); rintro e w18 ⟨v552, v555, rfl, ho0, ho1, hb⟩; refine ⟨_, rfl, ?_⟩; have HO553 := Aside0.mk (Kd.R_lower ho0 (below_size b_now)); have HO556 := Aside0.mk (Kd.R_lower ho1 (below_size b_now)); replace BK548 := sh_k BK548 hb; replace HB := sh_b (w := w) hb; (try clear hb); (try clear hb2); (try clear hk); (try clear hi); (try clear ho0); (try clear ho1)) | ((with_reducible refine gate_dst (N := 3) rfl ?_); (try (refine gate_guard (by rfl) ?_; dsimp only)); refine sh_box 3 #[.slice none 0 0, .slice none 0 0] 25 ?_; intro gb557 hg w19 hbox hb; have GE557 := sh_z (w := w) hg; have NB548_557 := sh_n BK548 hg; have NB557_548 := sh_s NB548_557; replace HO553 := Aside0.mk (Kd.R_below (by (with_reducible repeat (first | apply Kd.R_alloc | apply Kd.R_drewN | apply Kd.R_drew)); exact HO553.out) hb); replace HO556 := Aside0.mk (Kd.R_below (by (with_reducible repeat (first | apply Kd.R_alloc | apply Kd.R_drewN | apply Kd.R_drew)); exact HO556.out) hb); replace BK548 := sh_k BK548 hb; replace HB := sh_b (w := w) hb; have BK557 := Aside0.mk (hbox); clear hb hbox hg; obtain ⟨Ao20, co20, eo20⟩ := Kd.R_slice HO553.out; subst eo20; have hnb21 := NB557_548.out; have hnc21 := NB548_557.out; have hcz22 := blk_all2 BK557.out; obtain ⟨Ao23, co23, eo23⟩ := Kd.R_slice HO556.out; subst eo23; have hcz24 := blk_all2 BK548.out) | ((with_reducible refine gate_callee (f := 15) rfl ?_); refine sh_call (some 31) Tryd.func15 #[.slice A0_1 l0_1.length c0_1] ?_; (with_reducible refine (shape_Starts.calls _ _ l0_1 t558 _ ?side1 ?side2 ?side3 A15.out).mono ?_); (case side1 => exact Kd.C_below HR0_1.out b_now); (case side2 => exact HC0_1.out); (case side3 => exact Kd.C_below HRG0.out b_now); rintro e w25 ⟨v559, rfl, ho0, hb⟩; refine ⟨_, rfl, ?_⟩; have HO560 := Aside0.mk (Kd.R_lower ho0 (below_size b_now)); replace HO553 := Aside0.mk (Kd.R_below (by (with_reducible repeat (first | apply Kd.R_alloc | apply Kd.R_drewN | apply Kd.R_drew)); exact (Kd.R_mono (Kd.R_far (p := ⟨gb557, 1, none⟩) (Kd.R_far (p := ⟨gb557, 0, none⟩) (Kd.R_types HO553.out BK557.out (by decide)) (fun _ hk => hk.2) (.slice Ao20 t551.length co20)) (fun _ hk => hk.2) (.slice Ao23 t554.length co23)) (fun _ h_ => h_.1))) hb); replace HO556 := Aside0.mk (Kd.R_below (by (with_reducible repeat (first | apply Kd.R_alloc | apply Kd.R_drewN | apply Kd.R_drew)); exact (Kd.R_mono (Kd.R_far (p := ⟨gb557, 1, none⟩) (Kd.R_far (p := ⟨gb557, 0, none⟩) (Kd.R_types HO556.out BK557.out (by decide)) (fun _ hk => hk.2) (.slice Ao20 t551.length co20)) (fun _ hk => hk.2) (.slice Ao23 t554.length co23)) (fun _ h_ => h_.1))) hb); replace BK548 := sh_kp (g := gb548) (t := 25) #[.slice A0_0 l0_0.length c0_0, .slice A0_1 l0_1.length c0_1] hb; replace BK557 := sh_kp (g := gb557) (t := 25) #[.slice Ao20 t551.length co20, .slice Ao23 t554.length co23] hb; replace HB := sh_b (w := w) hb; (try clear hb); (try clear hb2); (try clear hk); (try clear hi); (try clear ho0); obtain ⟨Ao26, co26, eo26⟩ := Kd.R_slice HO560.out; subst eo26; have hcz27 := blk_all2 BK548.out))
      go_loopg [5, 6, 41] kj3 (fun kq v5 v6 v41 w' => ∃ (x5_2 : Bool) (x6_2 : Int) (x41_2 : Int) (x558001_2 : List (S40)) (u558001 : Value), v5 = .bool x5_2 ∧ v6 = .int .i64 x6_2 ∧ v41 = .int .i64 x41_2 ∧ Aside0 (stockadelaw04_ShapeJumps.l0 kq t558 x5_2 x6_2 l0_1 (l0_1.length : Int) x41_2 l0_0 l0_1 t551 x558001_2 = some r) ∧ Aside0 (kq ≤ kj3) ∧ Aside0 (Kd.R Kd.bool 4 w' w.heap.size (fun _ => True) (.slice Ao26 t558.length co26) t558) ∧ Aside0 (Kd.R k52 52 w' w.heap.size (fun _ => True) (.slice Ao20 t551.length co20) t551) ∧ Aside0 (Kd.R k40 40 w' w.heap.size (fun _ => True) u558001 x558001_2) ∧ Aside0 (w'.heap[gb548]? = some (.cells #[(.slice A0_0 l0_0.length c0_0), (.slice A0_1 l0_1.length c0_1)] 25 (0, 0))) ∧ Aside0 (w'.heap[gb557]? = some (.cells #[(.slice Ao20 t551.length co20), u558001] 25 (0, 0))) ∧ Aside0 (Below w.heap.size w w'))
      case atStart => exact ⟨(true), (0), (0), (t554), (.slice Ao23 t554.length co23), eq_now, eq_now, eq_now, H', ⟨Nat.le_refl _⟩, ⟨by (with_reducible repeat (first | apply Kd.R_alloc | apply Kd.R_drewN | apply Kd.R_drew)); exact HO560.out⟩, ⟨by (with_reducible repeat (first | apply Kd.R_alloc | apply Kd.R_drewN | apply Kd.R_drew)); exact HO553.out⟩, ⟨by (with_reducible repeat (first | apply Kd.R_alloc | apply Kd.R_drewN | apply Kd.R_drew)); exact HO556.out⟩, ⟨bk_now⟩, ⟨bk_now⟩, ⟨b_now⟩⟩
      case round =>
       clear H'
       try clear c1
       try clear c2
       try clear p2
       try clear c3
       try clear c7
       try clear c7b0
       try clear c7b1
       try clear c7b2
       try clear c8
       try clear c10
       try clear c13
       try clear c15
       try clear c16
       try clear c16b0
       try clear c16b1
       try clear c16b2
       try clear c21
       try clear hcz12
       try clear hcz17
       try clear hcz22
       try clear hcz24
       try clear hcz27
       try clear hcz8
       try clear hcz9
       try clear p2
       obtain ⟨x5_2, x6_2, x41_2, x558001_2, u558001, rfl, rfl, rfl, HA, HK2, HO_4, HO_558000, HO_558001, BK548, BK557, HB⟩ := hrel
       cases gk with
       | zero => exact absurd HA.out (by simp [stockadelaw04_ShapeJumps.l0])
       | succ k2 =>
        have H := HA.out
        clear HA
        simp only [stockadelaw04_ShapeJumps.l0] at H
        by_cases c28 : x41_2 < (l0_1.length : Int)
        ·rw [if_pos c28] at H
         have c28b0 : decide (x41_2 < (l0_1.length : Int)) = true := decide_eq_true c28
         clear c28
         by_cases c29 : 0 ≤ x41_2
         ·rw [if_pos c29] at H
          have c29b0 : decide (0 ≤ x41_2) = true := decide_eq_true c29
          clear c29
          by_cases c30 : x41_2 < (l0_1.length : Int)
          ·rw [if_pos c30] at H
           have c30b0 : decide (x41_2 < (l0_1.length : Int)) = true := decide_eq_true c30
           clear c30
           by_cases c31 : x41_2 < (t558.length : Int)
           ·rw [if_pos c31] at H
            have c31b0 : decide (x41_2 < (t558.length : Int)) = true := decide_eq_true c31
            clear c31
            obtain ⟨bq32, hbq32⟩ : ∃ b_ : Bool, b_ = (rdOf false t558 x41_2) := ⟨_, rfl⟩
            replace H : (if bq32 = true then ((insn_Of.f k2 ((rd_T40 l0_1 x41_2).f0) ((rd_T40 l0_1 x41_2).f1) ((rd_T40 l0_1 x41_2).f2) ((rd_T40 l0_1 x41_2).f3) ((rd_T40 l0_1 x41_2).f4)).bind fun bt567 => (if bt567.2.2.2.2.2 = 0 then (if bt567.1 = 6 then (stockadelaw04_ShapeJumps.j2 k2 t558 x5_2 x41_2 x41_2 l0_1 (l0_1.length : Int) x41_2 false l0_0 l0_1 t551 x558001_2 ((rd_T40 l0_1 x41_2).f0) ((rd_T40 l0_1 x41_2).f1) ((rd_T40 l0_1 x41_2).f2) ((rd_T40 l0_1 x41_2).f3) ((rd_T40 l0_1 x41_2).f4) bt567.1 bt567.2.1 bt567.2.2.1 bt567.2.2.2.1 bt567.2.2.2.2.1) else (stockadelaw04_ShapeJumps.j2 k2 t558 x5_2 x41_2 x41_2 l0_1 (l0_1.length : Int) x41_2 (bt567.1 != 7) l0_0 l0_1 t551 x558001_2 ((rd_T40 l0_1 x41_2).f0) ((rd_T40 l0_1 x41_2).f1) ((rd_T40 l0_1 x41_2).f2) ((rd_T40 l0_1 x41_2).f3) ((rd_T40 l0_1 x41_2).f4) bt567.1 bt567.2.1 bt567.2.2.1 bt567.2.2.2.1 bt567.2.2.2.2.1)) else (stockadelaw04_ShapeJumps.j2 k2 t558 x5_2 x41_2 x41_2 l0_1 (l0_1.length : Int) x41_2 true l0_0 l0_1 t551 x558001_2 ((rd_T40 l0_1 x41_2).f0) ((rd_T40 l0_1 x41_2).f1) ((rd_T40 l0_1 x41_2).f2) ((rd_T40 l0_1 x41_2).f3) ((rd_T40 l0_1 x41_2).f4) bt567.1 bt567.2.1 bt567.2.2.1 bt567.2.2.2.1 bt567.2.2.2.2.1))) else (stockadelaw04_ShapeJumps.l0 k2 t558 x5_2 x6_2 l0_1 (l0_1.length : Int) (wrap64 (x41_2 + 1)) l0_0 l0_1 t551 x558001_2)) = some r := by rw [← hbq32] at H; exact H
            have Nbq32 := Aside0.mk hbq32
            clear hbq32
            by_cases c33 : bq32 = true
            ·subst c33
             replace H := sh_t H
             replace H := Option.bind_eq_some_iff.mp H; obtain ⟨⟨t567, t568, t569, t570, t571, t572⟩, A340, H⟩ := H; try dsimp only at H
             have A34 := Aside0.mk A340
             clear A340
             have HC35 := Aside0.mk H
             clear H
             have p564 : 0 ≤ (x41_2 : Int) := of_decide_eq_true (by first | (with_reducible assumption) | assumption)
             have q564 : x41_2 < (l0_1.length : Int) := of_decide_eq_true (by first | (with_reducible assumption) | assumption)
             obtain ⟨ad564, e564, hx564_0, hx564_1, hx564_2, hx564_3, hx564_4⟩ := at_T40 HR0_1.out x41_2 p564 q564
             cases e564
             replace hx564_0 := (HB.out.cell (World.block_lt_of_cell? w _ hx564_0)).trans hx564_0
             replace hx564_1 := (HB.out.cell (World.block_lt_of_cell? w _ hx564_1)).trans hx564_1
             replace hx564_2 := (HB.out.cell (World.block_lt_of_cell? w _ hx564_2)).trans hx564_2
             replace hx564_3 := (HB.out.cell (World.block_lt_of_cell? w _ hx564_3)).trans hx564_3
             replace hx564_4 := (HB.out.cell (World.block_lt_of_cell? w _ hx564_4)).trans hx564_4
             replace p564 := eq_true p564
             replace q564 := eq_true q564
             go_upto_region 16 with (first | ((with_reducible refine gate_dst (N := 8) rfl ?_); (try (refine gate_guard (by rfl) ?_; dsimp only)); refine sh_box 8 #[.int .u8 0, .int .u8 0, .int .u8 0, .int .i16 0, .int .i32 0] 40 ?_; intro gb565 hg w36 hbox hb; have GE565 := sh_z (w := w) hg; have NB548_565 := sh_n BK548 hg; have NB557_565 := sh_n BK557 hg; have NB565_548 := sh_s NB548_565; have NB565_557 := sh_s NB557_565; replace HO_4 := Aside0.mk (Kd.R_below (by (with_reducible repeat (first | apply Kd.R_alloc | apply Kd.R_drewN | apply Kd.R_drew)); exact HO_4.out) hb); replace HO_558000 := Aside0.mk (Kd.R_below (by (with_reducible repeat (first | apply Kd.R_alloc | apply Kd.R_drewN | apply Kd.R_drew)); exact HO_558000.out) hb); replace HO_558001 := Aside0.mk (Kd.R_below (Kd.R_elderB (by (with_reducible repeat (first | apply Kd.R_alloc | apply Kd.R_drewN | apply Kd.R_drew)); exact HO_558001.out) gb565 (Nat.le_of_eq hg.symm)) hb); replace BK548 := sh_k BK548 hb; replace BK557 := sh_k BK557 hb; replace HB := sh_b (w := w) hb; have BK565 := Aside0.mk (hbox); clear hb hbox hg; have hnb37 := NB565_548.out; have hnc37 := NB548_565.out; have hnb38 := NB565_557.out; have hnc38 := NB557_565.out; have hcz39 := blk_all5 BK565.out; have p566 : 0 ≤ (x41_2 : Int) := of_decide_eq_true (by first | (with_reducible assumption) | assumption); have q566 : x41_2 < (t558.length : Int) := of_decide_eq_true (by first | (with_reducible assumption) | assumption); obtain ⟨ad566, e566, hx566_0⟩ := Kd.at_bool (Kd.R_reads' HO_4.out).2.2 x41_2 p566 q566; (try rw [← Nbq32.out] at hx566_0); cases e566; have hn566_0 : ad566.block ≠ gb565 := Kd.own_blk (Kd.R_ne HO_4.out BK565.out (by decide)); have hn566_1 : ad566.block ≠ gb565 := Kd.own_blk (Kd.R_ne HO_4.out BK565.out (by decide)); have hn566_2 : ad566.block ≠ gb565 := Kd.own_blk (Kd.R_ne HO_4.out BK565.out (by decide)); have hn566_3 : ad566.block ≠ gb565 := Kd.own_blk (Kd.R_ne HO_4.out BK565.out (by decide)); have hn566_4 : ad566.block ≠ gb565 := Kd.own_blk (Kd.R_ne HO_4.out BK565.out (by decide)); replace hx566_0 := (cell_far (p := ⟨gb565, 0, none⟩) (by first | (rw [add_block]; exact hn566_0) | (show (Addr.add _ _).block ≠ _; rw [add_block]; exact hn566_0) | exact hn566_0) (.int .u8 ((rd_T40 l0_1 x41_2).f0))).trans hx566_0; replace hx566_0 := (cell_far (p := ⟨gb565, 1, none⟩) (by first | (rw [add_block]; exact hn566_1) | (show (Addr.add _ _).block ≠ _; rw [add_block]; exact hn566_1) | exact hn566_1) (.int .u8 ((rd_T40 l0_1 x41_2).f1))).trans hx566_0; replace hx566_0 := (cell_far (p := ⟨gb565, 2, none⟩) (by first | (rw [add_block]; exact hn566_2) | (show (Addr.add _ _).block ≠ _; rw [add_block]; exact hn566_2) | exact hn566_2) (.int .u8 ((rd_T40 l0_1 x41_2).f2))).trans hx566_0; replace hx566_0 := (cell_far (p := ⟨gb565, 3, none⟩) (by first | (rw [add_block]; exact hn566_3) | (show (Addr.add _ _).block ≠ _; rw [add_block]; exact hn566_3) | exact hn566_3) (.int .i16 ((rd_T40 l0_1 x41_2).f3))).trans hx566_0; replace hx566_0 := (cell_far (p := ⟨gb565, 4, none⟩) (by first | (rw [add_block]; exact hn566_4) | (show (Addr.add _ _).block ≠ _; rw [add_block]; exact hn566_4) | exact hn566_4) (.int .i32 ((rd_T40 l0_1 x41_2).f4))).trans hx566_0; clear hn566_0; clear hn566_1; clear hn566_2; clear hn566_3; clear hn566_4; replace p566 := eq_true p566; replace q566 := eq_true q566) | ((with_reducible refine gate_callee (f := 22) rfl ?_); refine sh_call (some 54) Tryd.func22 #[.agg #[.int .u8 ((rd_T40 l0_1 x41_2).f0), .int .u8 ((rd_T40 l0_1 x41_2).f1), .int .u8 ((rd_T40 l0_1 x41_2).f2), .int .i16 ((rd_T40 l0_1 x41_2).f3), .int .i32 ((rd_T40 l0_1 x41_2).f4)]] ?_; (with_reducible refine (insn_Of.calls k2 ((rd_T40 l0_1 x41_2).f0) ((rd_T40 l0_1 x41_2).f1) ((rd_T40 l0_1 x41_2).f2) ((rd_T40 l0_1 x41_2).f3) ((rd_T40 l0_1 x41_2).f4) t567 t568 t569 t570 t571 t572 _ ?side1 A34.out).mono ?_); (case side1 => exact Kd.C_below HRG0.out b_now); rintro e w40 ⟨rfl, hb⟩; refine ⟨_, rfl, ?_⟩; replace HO_4 := Aside0.mk (Kd.R_below (by (with_reducible repeat (first | apply Kd.R_alloc | apply Kd.R_drewN | apply Kd.R_drew)); exact (Kd.R_mono (Kd.R_far (p := ⟨gb565, 4, none⟩) (Kd.R_far (p := ⟨gb565, 3, none⟩) (Kd.R_far (p := ⟨gb565, 2, none⟩) (Kd.R_far (p := ⟨gb565, 1, none⟩) (Kd.R_far (p := ⟨gb565, 0, none⟩) (Kd.R_types HO_4.out BK565.out (by decide)) (fun _ hk => hk.2) (.int .u8 ((rd_T40 l0_1 x41_2).f0))) (fun _ hk => hk.2) (.int .u8 ((rd_T40 l0_1 x41_2).f1))) (fun _ hk => hk.2) (.int .u8 ((rd_T40 l0_1 x41_2).f2))) (fun _ hk => hk.2) (.int .i16 ((rd_T40 l0_1 x41_2).f3))) (fun _ hk => hk.2) (.int .i32 ((rd_T40 l0_1 x41_2).f4))) (fun _ h_ => h_.1))) hb); replace HO_558000 := Aside0.mk (Kd.R_below (by (with_reducible repeat (first | apply Kd.R_alloc | apply Kd.R_drewN | apply Kd.R_drew)); exact (Kd.R_mono (Kd.R_far (p := ⟨gb565, 4, none⟩) (Kd.R_far (p := ⟨gb565, 3, none⟩) (Kd.R_far (p := ⟨gb565, 2, none⟩) (Kd.R_far (p := ⟨gb565, 1, none⟩) (Kd.R_far (p := ⟨gb565, 0, none⟩) (Kd.R_types HO_558000.out BK565.out (by decide)) (fun _ hk => hk.2) (.int .u8 ((rd_T40 l0_1 x41_2).f0))) (fun _ hk => hk.2) (.int .u8 ((rd_T40 l0_1 x41_2).f1))) (fun _ hk => hk.2) (.int .u8 ((rd_T40 l0_1 x41_2).f2))) (fun _ hk => hk.2) (.int .i16 ((rd_T40 l0_1 x41_2).f3))) (fun _ hk => hk.2) (.int .i32 ((rd_T40 l0_1 x41_2).f4))) (fun _ h_ => h_.1))) hb); replace HO_558001 := Aside0.mk (Kd.R_below (by (with_reducible repeat (first | apply Kd.R_alloc | apply Kd.R_drewN | apply Kd.R_drew)); exact (Kd.R_mono (Kd.R_far (p := ⟨gb565, 4, none⟩) (Kd.R_far (p := ⟨gb565, 3, none⟩) (Kd.R_far (p := ⟨gb565, 2, none⟩) (Kd.R_far (p := ⟨gb565, 1, none⟩) (Kd.R_far (p := ⟨gb565, 0, none⟩) (Kd.R_mono HO_558001.out (fun k_ hk => (⟨hk, hk.2⟩ : _ ∧ k_ ≠ gb565))) (fun _ hk => hk.2) (.int .u8 ((rd_T40 l0_1 x41_2).f0))) (fun _ hk => hk.2) (.int .u8 ((rd_T40 l0_1 x41_2).f1))) (fun _ hk => hk.2) (.int .u8 ((rd_T40 l0_1 x41_2).f2))) (fun _ hk => hk.2) (.int .i16 ((rd_T40 l0_1 x41_2).f3))) (fun _ hk => hk.2) (.int .i32 ((rd_T40 l0_1 x41_2).f4))) (fun _ h_ => h_.1))) hb); replace BK548 := sh_kp (g := gb548) (t := 25) #[.slice A0_0 l0_0.length c0_0, .slice (some ad564) l0_1.length c0_1] hb; replace BK557 := sh_kp (g := gb557) (t := 25) #[.slice Ao20 t551.length co20, u558001] hb; replace BK565 := sh_kp (g := gb565) (t := 40) #[.int .u8 ((rd_T40 l0_1 x41_2).f0), .int .u8 ((rd_T40 l0_1 x41_2).f1), .int .u8 ((rd_T40 l0_1 x41_2).f2), .int .i16 ((rd_T40 l0_1 x41_2).f3), .int .i32 ((rd_T40 l0_1 x41_2).f4)] hb; replace HB := sh_b (w := w) hb; (try clear hb); (try clear hb2); (try clear hk); (try clear hi)) | ((with_reducible refine gate_dst (N := 9) rfl ?_); (try (refine gate_guard (by rfl) ?_; dsimp only)); refine sh_box 9 #[.int .i64 0, .int .i64 0, .int .i64 0, .bool false, .bool false] 45 ?_; intro gb573 hg w41 hbox hb; have GE573 := sh_z (w := w) hg; have NB548_573 := sh_n BK548 hg; have NB557_573 := sh_n BK557 hg; have NB565_573 := sh_n BK565 hg; have NB573_548 := sh_s NB548_573; have NB573_557 := sh_s NB557_573; have NB573_565 := sh_s NB565_573; replace HO_4 := Aside0.mk (Kd.R_below (by (with_reducible repeat (first | apply Kd.R_alloc | apply Kd.R_drewN | apply Kd.R_drew)); exact HO_4.out) hb); replace HO_558000 := Aside0.mk (Kd.R_below (by (with_reducible repeat (first | apply Kd.R_alloc | apply Kd.R_drewN | apply Kd.R_drew)); exact HO_558000.out) hb); replace HO_558001 := Aside0.mk (Kd.R_below (by (with_reducible repeat (first | apply Kd.R_alloc | apply Kd.R_drewN | apply Kd.R_drew)); exact HO_558001.out) hb); replace BK548 := sh_k BK548 hb; replace BK557 := sh_k BK557 hb; replace BK565 := sh_k BK565 hb; replace HB := sh_b (w := w) hb; have BK573 := Aside0.mk (hbox); clear hb hbox hg; have hnb42 := NB573_548.out; have hnc42 := NB548_573.out; have hnb43 := NB573_557.out; have hnc43 := NB557_573.out; have hnb44 := NB573_565.out; have hnc44 := NB565_573.out; have hcz45 := blk_all5 BK573.out))
             (try simp only [Act.put, List.setIfInBounds_toArray, List.set_cons_zero, List.set_cons_succ])
             go_cut [68] (fun v68 wc => ∃ (kq : Nat) (x68_34 : Bool), v68 = .bool x68_34 ∧ Aside0 (stockadelaw04_ShapeJumps.j2 kq t558 x5_2 x41_2 x41_2 l0_1 (l0_1.length : Int) x41_2 x68_34 l0_0 l0_1 t551 x558001_2 ((rd_T40 l0_1 x41_2).f0) ((rd_T40 l0_1 x41_2).f1) ((rd_T40 l0_1 x41_2).f2) ((rd_T40 l0_1 x41_2).f3) ((rd_T40 l0_1 x41_2).f4) t567 t568 t569 t570 t571 = some r) ∧ Aside0 (kq ≤ k2) ∧ Aside0 (Kd.R Kd.bool 4 wc w.heap.size (fun _ => True) (.slice (some ad566) t558.length co26) t558) ∧ Aside0 (Kd.R k52 52 wc w.heap.size (fun _ => True) (.slice Ao20 t551.length co20) t551) ∧ Aside0 (Kd.R k40 40 wc w.heap.size (fun k_ => k_ ≠ gb565) u558001 x558001_2) ∧ Aside0 (wc.heap[gb548]? = some (.cells #[(.slice A0_0 l0_0.length c0_0), (.slice (some ad564) l0_1.length c0_1)] 25 (0, 0))) ∧ Aside0 (wc.heap[gb557]? = some (.cells #[(.slice Ao20 t551.length co20), u558001] 25 (0, 0))) ∧ Aside0 (wc.heap[gb565]? = some (.cells #[.int .u8 ((rd_T40 l0_1 x41_2).f0), .int .u8 ((rd_T40 l0_1 x41_2).f1), .int .u8 ((rd_T40 l0_1 x41_2).f2), .int .i16 ((rd_T40 l0_1 x41_2).f3), .int .i32 ((rd_T40 l0_1 x41_2).f4)] 40 (0, 0))) ∧ Aside0 (wc.heap[gb573]? = some (.cells #[.int .i64 t567, .int .i64 t568, .int .i64 t569, .bool t570, .bool t571] 45 (0, 0))) ∧ Aside0 (Below w.heap.size w wc))
             case first =>
              have H := HC35.out
              clear HC35
              by_cases c46 : t572 = 0
              ·rw [if_pos c46] at H
               have c46b0 : (t572 == 0) = true := beq_iff_eq.mpr c46
               have c46b1 : (t572 != 0) = false := bne_eq_false_iff_eq.mpr c46
               clear c46
               (first | rw [c46b0] | (simp only [i64_w, i32_w]; rw [c46b0]) | skip)
               by_cases c47 : t567 = 6
               ·rw [if_pos c47] at H
                have c47b0 : (t567 == 6) = true := beq_iff_eq.mpr c47
                have c47b1 : (t567 != 6) = false := bne_eq_false_iff_eq.mpr c47
                clear c47
                have H' := Aside0.mk H
                clear H
                have hnb48 := NB573_548.out
                have hnc48 := NB548_573.out
                have hnb49 := NB573_557.out
                have hnc49 := NB557_573.out
                have hnb50 := NB573_565.out
                have hnc50 := NB565_573.out
                have hcz51 := blk_all5 BK573.out
                go_wp2
                go_meet
                case rel => exact ⟨_, (false), eq_now, H', ⟨by have := HJ3.out; have := HK2.out; first | omega | exact Nat.le_refl _⟩, ⟨by (with_reducible repeat (first | apply Kd.R_alloc | apply Kd.R_drewN | apply Kd.R_drew)); exact Kd.R_mono (Kd.R_far (p := ⟨gb573, 4, none⟩) (Kd.R_far (p := ⟨gb573, 3, none⟩) (Kd.R_far (p := ⟨gb573, 2, none⟩) (Kd.R_far (p := ⟨gb573, 1, none⟩) (Kd.R_far (p := ⟨gb573, 0, none⟩) (Kd.R_types HO_4.out BK573.out (by decide)) (fun _ hk => hk.2) (.int .i64 t567)) (fun _ hk => hk.2) (.int .i64 t568)) (fun _ hk => hk.2) (.int .i64 t569)) (fun _ hk => hk.2) (.bool t570)) (fun _ hk => hk.2) (.bool t571)) (fun _ hk => trivial)⟩, ⟨by (with_reducible repeat (first | apply Kd.R_alloc | apply Kd.R_drewN | apply Kd.R_drew)); exact Kd.R_mono (Kd.R_far (p := ⟨gb573, 4, none⟩) (Kd.R_far (p := ⟨gb573, 3, none⟩) (Kd.R_far (p := ⟨gb573, 2, none⟩) (Kd.R_far (p := ⟨gb573, 1, none⟩) (Kd.R_far (p := ⟨gb573, 0, none⟩) (Kd.R_types HO_558000.out BK573.out (by decide)) (fun _ hk => hk.2) (.int .i64 t567)) (fun _ hk => hk.2) (.int .i64 t568)) (fun _ hk => hk.2) (.int .i64 t569)) (fun _ hk => hk.2) (.bool t570)) (fun _ hk => hk.2) (.bool t571)) (fun _ hk => trivial)⟩, ⟨by (with_reducible repeat (first | apply Kd.R_alloc | apply Kd.R_drewN | apply Kd.R_drew)); exact Kd.R_mono (Kd.R_far (p := ⟨gb573, 4, none⟩) (Kd.R_far (p := ⟨gb573, 3, none⟩) (Kd.R_far (p := ⟨gb573, 2, none⟩) (Kd.R_far (p := ⟨gb573, 1, none⟩) (Kd.R_far (p := ⟨gb573, 0, none⟩) (Kd.R_types HO_558001.out BK573.out (by decide)) (fun _ hk => hk.2) (.int .i64 t567)) (fun _ hk => hk.2) (.int .i64 t568)) (fun _ hk => hk.2) (.int .i64 t569)) (fun _ hk => hk.2) (.bool t570)) (fun _ hk => hk.2) (.bool t571)) (fun _ hk => hk.1.2)⟩, ⟨bk_now⟩, ⟨bk_now⟩, ⟨bk_now⟩, ⟨bk_now⟩, ⟨b_now⟩⟩
               ·rw [if_neg c47] at H
                have c47b0 : (t567 == 6) = false := beq_eq_false_iff_ne.mpr c47
                have c47b1 : (t567 != 6) = true := bne_iff_ne.mpr c47
                have H' := Aside0.mk H
                clear H
                have hnb52 := NB573_548.out
                have hnc52 := NB548_573.out
                have hnb53 := NB573_557.out
                have hnc53 := NB557_573.out
                have hnb54 := NB573_565.out
                have hnc54 := NB565_573.out
                have hcz55 := blk_all5 BK573.out
                go_wp2
                go_meet
                case rel => exact ⟨_, ((t567 != 7)), eq_now, H', ⟨by have := HJ3.out; have := HK2.out; first | omega | exact Nat.le_refl _⟩, ⟨by (with_reducible repeat (first | apply Kd.R_alloc | apply Kd.R_drewN | apply Kd.R_drew)); exact Kd.R_mono (Kd.R_far (p := ⟨gb573, 4, none⟩) (Kd.R_far (p := ⟨gb573, 3, none⟩) (Kd.R_far (p := ⟨gb573, 2, none⟩) (Kd.R_far (p := ⟨gb573, 1, none⟩) (Kd.R_far (p := ⟨gb573, 0, none⟩) (Kd.R_types HO_4.out BK573.out (by decide)) (fun _ hk => hk.2) (.int .i64 t567)) (fun _ hk => hk.2) (.int .i64 t568)) (fun _ hk => hk.2) (.int .i64 t569)) (fun _ hk => hk.2) (.bool t570)) (fun _ hk => hk.2) (.bool t571)) (fun _ hk => trivial)⟩, ⟨by (with_reducible repeat (first | apply Kd.R_alloc | apply Kd.R_drewN | apply Kd.R_drew)); exact Kd.R_mono (Kd.R_far (p := ⟨gb573, 4, none⟩) (Kd.R_far (p := ⟨gb573, 3, none⟩) (Kd.R_far (p := ⟨gb573, 2, none⟩) (Kd.R_far (p := ⟨gb573, 1, none⟩) (Kd.R_far (p := ⟨gb573, 0, none⟩) (Kd.R_types HO_558000.out BK573.out (by decide)) (fun _ hk => hk.2) (.int .i64 t567)) (fun _ hk => hk.2) (.int .i64 t568)) (fun _ hk => hk.2) (.int .i64 t569)) (fun _ hk => hk.2) (.bool t570)) (fun _ hk => hk.2) (.bool t571)) (fun _ hk => trivial)⟩, ⟨by (with_reducible repeat (first | apply Kd.R_alloc | apply Kd.R_drewN | apply Kd.R_drew)); exact Kd.R_mono (Kd.R_far (p := ⟨gb573, 4, none⟩) (Kd.R_far (p := ⟨gb573, 3, none⟩) (Kd.R_far (p := ⟨gb573, 2, none⟩) (Kd.R_far (p := ⟨gb573, 1, none⟩) (Kd.R_far (p := ⟨gb573, 0, none⟩) (Kd.R_types HO_558001.out BK573.out (by decide)) (fun _ hk => hk.2) (.int .i64 t567)) (fun _ hk => hk.2) (.int .i64 t568)) (fun _ hk => hk.2) (.int .i64 t569)) (fun _ hk => hk.2) (.bool t570)) (fun _ hk => hk.2) (.bool t571)) (fun _ hk => hk.1.2)⟩, ⟨bk_now⟩, ⟨bk_now⟩, ⟨bk_now⟩, ⟨bk_now⟩, ⟨b_now⟩⟩
              ·rw [if_neg c46] at H
               have c46b0 : (t572 == 0) = false := beq_eq_false_iff_ne.mpr c46
               have c46b1 : (t572 != 0) = true := bne_iff_ne.mpr c46
               (first | rw [c46b0] | (simp only [i64_w, i32_w]; rw [c46b0]) | skip)
               have H' := Aside0.mk H
               clear H
               go_wp2
               go_meet
               case rel => exact ⟨_, (true), eq_now, H', ⟨by have := HJ3.out; have := HK2.out; first | omega | exact Nat.le_refl _⟩, ⟨by (with_reducible repeat (first | apply Kd.R_alloc | apply Kd.R_drewN | apply Kd.R_drew)); exact Kd.R_mono (Kd.R_far (p := ⟨gb573, 4, none⟩) (Kd.R_far (p := ⟨gb573, 3, none⟩) (Kd.R_far (p := ⟨gb573, 2, none⟩) (Kd.R_far (p := ⟨gb573, 1, none⟩) (Kd.R_far (p := ⟨gb573, 0, none⟩) (Kd.R_types HO_4.out BK573.out (by decide)) (fun _ hk => hk.2) (.int .i64 t567)) (fun _ hk => hk.2) (.int .i64 t568)) (fun _ hk => hk.2) (.int .i64 t569)) (fun _ hk => hk.2) (.bool t570)) (fun _ hk => hk.2) (.bool t571)) (fun _ hk => trivial)⟩, ⟨by (with_reducible repeat (first | apply Kd.R_alloc | apply Kd.R_drewN | apply Kd.R_drew)); exact Kd.R_mono (Kd.R_far (p := ⟨gb573, 4, none⟩) (Kd.R_far (p := ⟨gb573, 3, none⟩) (Kd.R_far (p := ⟨gb573, 2, none⟩) (Kd.R_far (p := ⟨gb573, 1, none⟩) (Kd.R_far (p := ⟨gb573, 0, none⟩) (Kd.R_types HO_558000.out BK573.out (by decide)) (fun _ hk => hk.2) (.int .i64 t567)) (fun _ hk => hk.2) (.int .i64 t568)) (fun _ hk => hk.2) (.int .i64 t569)) (fun _ hk => hk.2) (.bool t570)) (fun _ hk => hk.2) (.bool t571)) (fun _ hk => trivial)⟩, ⟨by (with_reducible repeat (first | apply Kd.R_alloc | apply Kd.R_drewN | apply Kd.R_drew)); exact Kd.R_mono (Kd.R_far (p := ⟨gb573, 4, none⟩) (Kd.R_far (p := ⟨gb573, 3, none⟩) (Kd.R_far (p := ⟨gb573, 2, none⟩) (Kd.R_far (p := ⟨gb573, 1, none⟩) (Kd.R_far (p := ⟨gb573, 0, none⟩) (Kd.R_types HO_558001.out BK573.out (by decide)) (fun _ hk => hk.2) (.int .i64 t567)) (fun _ hk => hk.2) (.int .i64 t568)) (fun _ hk => hk.2) (.int .i64 t569)) (fun _ hk => hk.2) (.bool t570)) (fun _ hk => hk.2) (.bool t571)) (fun _ hk => hk.1.2)⟩, ⟨bk_now⟩, ⟨bk_now⟩, ⟨bk_now⟩, ⟨bk_now⟩, ⟨b_now⟩⟩
             case rest =>
              clear HC35
              try clear c1
              try clear c2
              try clear p2
              try clear c3
              try clear q3
              try clear c4
              try clear c5
              try clear p5
              try clear q5
              try clear hx5
              try clear p6
              try clear c7
              try clear c7b0
              try clear c7b1
              try clear c7b2
              try clear c8
              try clear c10
              try clear c13
              try clear c15
              try clear c16
              try clear c16b0
              try clear c16b1
              try clear c16b2
              try clear c21
              try clear c22
              try clear c28
              try clear c28b0
              try clear c29
              try clear c29b0
              try clear c30
              try clear c30b0
              try clear c31
              try clear c31b0
              try clear q32
              try clear c33
              try clear c37
              try clear c38
              try clear c42
              try clear c43
              try clear c44
              try clear c46
              try clear c46b0
              try clear c46b1
              try clear c47
              try clear c47b0
              try clear c47b1
              try clear c48
              try clear c49
              try clear c50
              try clear c52
              try clear c53
              try clear c54
              try clear hcz12
              try clear hcz17
              try clear hcz22
              try clear hcz24
              try clear hcz27
              try clear hcz39
              try clear hcz45
              try clear hcz51
              try clear hcz55
              try clear hcz8
              try clear hcz9
              try clear hx564_0
              try clear hx564_1
              try clear hx564_2
              try clear hx564_3
              try clear hx564_4
              try clear hx566_0
              try clear p2
              try clear p564
              try clear p566
              try clear q564
              try clear q566
              obtain ⟨kq, x68_34, rfl, HA, HJ34, HO_4, HO_558000, HO_558001, BK548, BK557, BK565, BK573, HB⟩ := hcut
              cases kq with
              | zero => exact absurd HA.out (by simp [stockadelaw04_ShapeJumps.j2])
              | succ kj34 =>
               have H := HA.out
               clear HA
               simp only [stockadelaw04_ShapeJumps.j2] at H
               by_cases c56 : x68_34 = true
               ·subst c56
                replace H := sh_t H
                have H' := Aside0.mk H
                clear H
                go_wp2
                go_roundg kj34
                case measure => have := HJ3.out; have := HK2.out; have := HJ34.out; omega
                case rel => exact ⟨(x5_2), (x41_2), (wrap64 (x41_2 + 1)), (x558001_2), (u558001), eq_now, eq_now, eq_now, H', ⟨by have := HJ3.out; have := HK2.out; have := HJ34.out; omega⟩, ⟨by (with_reducible repeat (first | apply Kd.R_alloc | apply Kd.R_drewN | apply Kd.R_drew)); exact HO_4.out⟩, ⟨by (with_reducible repeat (first | apply Kd.R_alloc | apply Kd.R_drewN | apply Kd.R_drew)); exact HO_558000.out⟩, ⟨by (with_reducible repeat (first | apply Kd.R_alloc | apply Kd.R_drewN | apply Kd.R_drew)); exact Kd.R_mono HO_558001.out (fun _ hk => trivial)⟩, ⟨bk_now⟩, ⟨bk_now⟩, ⟨b_now⟩⟩
               ·replace c56 := Bool.eq_false_iff.mpr c56
                subst c56
                replace H := sh_f H
                replace H := Option.bind_eq_some_iff.mp H; obtain ⟨t574, A570, H⟩ := H; try dsimp only at H
                have A57 := Aside0.mk A570
                clear A570
                by_cases c58 : x5_2 = true
                ·subst c58
                 replace H := sh_t H
                 by_cases c59 : t574 ≥ 0
                 ·rw [if_pos c59] at H
                  have c59b0 : decide (0 ≤ t574) = true := decide_eq_true c59
                  clear c59
                  by_cases c60 : t574 < (t558.length : Int)
                  ·rw [if_pos c60] at H
                   have c60b0 : decide (t574 < (t558.length : Int)) = true := decide_eq_true c60
                   clear c60
                   by_cases c61 : 0 ≤ t574
                   ·rw [if_pos c61] at H
                    have c61b0 : decide (0 ≤ t574) = true := decide_eq_true c61
                    clear c61
                    by_cases c62 : 0 ≤ x41_2
                    ·rw [if_pos c62] at H
                     have c62b0 : decide (0 ≤ x41_2) = true := decide_eq_true c62
                     clear c62
                     by_cases c63 : x41_2 < (x558001_2.length : Int)
                     ·rw [if_pos c63] at H
                      have c63b0 : decide (x41_2 < (x558001_2.length : Int)) = true := decide_eq_true c63
                      clear c63
                      obtain ⟨y576, hy576⟩ : ∃ y_ : List (S40), y_ = (x558001_2.set (x41_2 : Int).toNat (⟨7, 0, 0, 0, 0⟩ : S40)) := ⟨_, rfl⟩
                      replace H : (if t567 = 7 then (if x41_2 = (wrap64 ((l0_1.length : Int) - 1)) then ((stockadelaw04_exit.f).bind fun bt577 => (stockadelaw04_ShapeJumps.l0 kj34 t558 (rdOf false t558 t574) x41_2 l0_1 (l0_1.length : Int) (wrap64 (x41_2 + 1)) l0_0 l0_1 t551 (y576.set (x41_2 : Int).toNat (⟨bt577.1, bt577.2.1, bt577.2.2.1, bt577.2.2.2.1, bt577.2.2.2.2⟩ : S40)))) else (stockadelaw04_ShapeJumps.l0 kj34 t558 (rdOf false t558 t574) x41_2 l0_1 (l0_1.length : Int) (wrap64 (x41_2 + 1)) l0_0 l0_1 t551 y576)) else (stockadelaw04_ShapeJumps.l0 kj34 t558 (rdOf false t558 t574) x41_2 l0_1 (l0_1.length : Int) (wrap64 (x41_2 + 1)) l0_0 l0_1 t551 y576)) = some r := by first | (rw [hy576]; with_reducible exact H) | (have H2_ := (Option.bind_some _ _).symm.trans H; rw [hy576]; with_reducible exact H2_) | (have H2_ := (Option.bind_some _ _).symm.trans H; with_reducible exact H2_) | with_reducible exact H | (rw [hy576]; exact H) | exact H
                      have Ny576 := Aside0.mk hy576
                      clear hy576
                      by_cases c65 : t567 = 7
                      ·rw [if_pos c65] at H
                       have c65b0 : (t567 == 7) = true := beq_iff_eq.mpr c65
                       have c65b1 : (t567 != 7) = false := bne_eq_false_iff_eq.mpr c65
                       clear c65
                       by_cases c66 : x41_2 = (wrap64 ((l0_1.length : Int) - 1))
                       ·rw [if_pos c66] at H
                        have c66b0 : (x41_2 == (wrap64 ((l0_1.length : Int) - 1))) = true := beq_iff_eq.mpr c66
                        have c66b1 : (x41_2 != (wrap64 ((l0_1.length : Int) - 1))) = false := bne_eq_false_iff_eq.mpr c66
                        clear c66
                        replace H := Option.bind_eq_some_iff.mp H; obtain ⟨⟨t577, t578, t579, t580, t581⟩, A670, H⟩ := H; try dsimp only at H
                        have A67 := Aside0.mk A670
                        clear A670
                        obtain ⟨y582, hy582⟩ : ∃ y_ : List (S40), y_ = (y576.set (x41_2 : Int).toNat (⟨t577, t578, t579, t580, t581⟩ : S40)) := ⟨_, rfl⟩
                        replace H : (stockadelaw04_ShapeJumps.l0 kj34 t558 (rdOf false t558 t574) x41_2 l0_1 (l0_1.length : Int) (wrap64 (x41_2 + 1)) l0_0 l0_1 t551 y582) = some r := by first | (rw [hy582]; with_reducible exact H) | (have H2_ := (Option.bind_some _ _).symm.trans H; rw [hy582]; with_reducible exact H2_) | (have H2_ := (Option.bind_some _ _).symm.trans H; with_reducible exact H2_) | with_reducible exact H | (rw [hy582]; exact H) | exact H
                        have Ny582 := Aside0.mk hy582
                        clear hy582
                        have H' := Aside0.mk H
                        clear H
                        have hnb69 := NB565_548.out
                        have hnc69 := NB548_565.out
                        have hnb70 := NB565_557.out
                        have hnc70 := NB557_565.out
                        have hnb71 := NB565_573.out
                        have hnc71 := NB573_565.out
                        have hcz72 := blk_all5 BK565.out
                        try go_wp2_with (first | ((with_reducible refine gate_callee (f := 19) rfl ?_); refine sh_call (some 71) Tryd.func19 #[.int .i64 x41_2, .agg #[.int .u8 ((rd_T40 l0_1 x41_2).f0), .int .u8 ((rd_T40 l0_1 x41_2).f1), .int .u8 ((rd_T40 l0_1 x41_2).f2), .int .i16 ((rd_T40 l0_1 x41_2).f3), .int .i32 ((rd_T40 l0_1 x41_2).f4)]] ?_; (with_reducible refine (shape_Target.calls x41_2 ((rd_T40 l0_1 x41_2).f0) ((rd_T40 l0_1 x41_2).f1) ((rd_T40 l0_1 x41_2).f2) ((rd_T40 l0_1 x41_2).f3) ((rd_T40 l0_1 x41_2).f4) t574 _ A57.out).mono ?_); rintro e w73 ⟨rfl, hb⟩; refine ⟨_, rfl, ?_⟩; replace HO_4 := Aside0.mk (Kd.R_below (by (with_reducible repeat (first | apply Kd.R_alloc | apply Kd.R_drewN | apply Kd.R_drew)); exact HO_4.out) hb); replace HO_558000 := Aside0.mk (Kd.R_below (by (with_reducible repeat (first | apply Kd.R_alloc | apply Kd.R_drewN | apply Kd.R_drew)); exact HO_558000.out) hb); replace HO_558001 := Aside0.mk (Kd.R_below (by (with_reducible repeat (first | apply Kd.R_alloc | apply Kd.R_drewN | apply Kd.R_drew)); exact HO_558001.out) hb); replace BK548 := sh_k BK548 hb; replace BK557 := sh_k BK557 hb; replace BK565 := sh_k BK565 hb; replace BK573 := sh_k BK573 hb; replace HB := sh_b (w := w) hb; (try clear hb); (try clear hb2); (try clear hk); (try clear hi); have p575 : 0 ≤ (t574 : Int) := of_decide_eq_true (by first | (with_reducible assumption) | assumption); have q575 : t574 < (t558.length : Int) := of_decide_eq_true (by first | (with_reducible assumption) | assumption); obtain ⟨ad575, e575, hx575_0⟩ := Kd.at_bool (Kd.R_reads' HO_4.out).2.2 t574 p575 q575; (try rw [← Nbq32.out] at hx575_0); obtain rfl : ad566 = ad575 := (by injection e575); replace p575 := eq_true p575; replace q575 := eq_true q575; have hnb74 := NB557_548.out; have hnc74 := NB548_557.out; have hnb75 := NB557_573.out; have hnc75 := NB573_557.out; have hcz76 := blk_all2 BK557.out; have p64 : 0 ≤ (x41_2 : Int) := of_decide_eq_true (by first | (with_reducible assumption) | assumption); have q64 : (x41_2 : Int) < ((x558001_2.length : Int) : Int) := of_decide_eq_true (by first | (with_reducible assumption) | assumption); obtain ⟨go64, co64, eo64, gb64, gl64, cl64, HG64⟩ := Kd.R_form HO_558001.out (by omega); (first | cases eo64 | (injection eo64 with ea_ en_ ec_; (first | subst ea_ | (injection ea_ with ea_; subst ea_)); subst ec_; clear en_)); have GB64 := Aside0.mk gb64; have GG64 := Aside0.mk HG64; clear gb64 gl64 HG64; obtain ⟨ce64, hcl64, hM64, hcc64, hfr64⟩ := Kd.R_elem HO_558001.out z40 (x41_2 : Int) p64 q64; obtain rfl := k40_openM hM64; have hx64_0 : w73.cell? ⟨go64, (x41_2 : Int).toNat * 5, none⟩ = some (.int .u8 ((rd_T40 x558001_2 x41_2).f0)) := hcc64 0 _ rfl; have hx64_1 : w73.cell? ⟨go64, (x41_2 : Int).toNat * 5 + 1, none⟩ = some (.int .u8 ((rd_T40 x558001_2 x41_2).f1)) := hcc64 1 _ rfl; have hx64_2 : w73.cell? ⟨go64, (x41_2 : Int).toNat * 5 + 2, none⟩ = some (.int .u8 ((rd_T40 x558001_2 x41_2).f2)) := hcc64 2 _ rfl; have hx64_3 : w73.cell? ⟨go64, (x41_2 : Int).toNat * 5 + 3, none⟩ = some (.int .i16 ((rd_T40 x558001_2 x41_2).f3)) := hcc64 3 _ rfl; have hx64_4 : w73.cell? ⟨go64, (x41_2 : Int).toNat * 5 + 4, none⟩ = some (.int .i32 ((rd_T40 x558001_2 x41_2).f4)) := hcc64 4 _ rfl; have hf64_0 : w73.frozen? ⟨go64, (x41_2 : Int).toNat * 5, none⟩ = false := hfr64 0; have hf64_1 : w73.frozen? ⟨go64, (x41_2 : Int).toNat * 5 + 1, none⟩ = false := hfr64 1; have hf64_2 : w73.frozen? ⟨go64, (x41_2 : Int).toNat * 5 + 2, none⟩ = false := hfr64 2; have hf64_3 : w73.frozen? ⟨go64, (x41_2 : Int).toNat * 5 + 3, none⟩ = false := hfr64 3; have hf64_4 : w73.frozen? ⟨go64, (x41_2 : Int).toNat * 5 + 4, none⟩ = false := hfr64 4; clear hcl64 hcc64 hfr64 hM64; replace p64 := eq_true p64; replace q64 := eq_true q64; have HX77 := Aside0.mk (show Kd.R k40 40 w73 w.heap.size (fun k_ => k_ ≠ gb565) (.slice (some ⟨go64, 0, none⟩) x558001_2.length co64) x558001_2 from (by (with_reducible repeat (first | apply Kd.R_alloc | apply Kd.R_drewN | apply Kd.R_drew)); exact HO_558001.out)); obtain ⟨ce77, hcl77, hM77, hcc77, hfr77⟩ := Kd.R_elem HX77.out z40 (x41_2 : Int) (of_decide_eq_true (by first | (with_reducible assumption) | assumption)) (by have h_ : (x41_2 : Int) < ((x558001_2.length : Int) : Int) := of_decide_eq_true (by first | (with_reducible assumption) | assumption); first | exact h_ | (have e_ := (Kd.R_reads' HO_558001.out).1; omega) | simpa using h_); obtain rfl := k40_openM hM77; have HP77 := Kd.R_seg HX77.out (x41_2 : Int) (of_decide_eq_true (by first | (with_reducible assumption) | assumption)) (by have h_ : (x41_2 : Int) < ((x558001_2.length : Int) : Int) := of_decide_eq_true (by first | (with_reducible assumption) | assumption); first | exact h_ | (have e_ := (Kd.R_reads' HO_558001.out).1; omega) | simpa using h_) (seg := [.int .u8 7, .int .u8 0, .int .u8 0, .int .i16 0, .int .i32 0]) (j := 0) hcl77 hcc77 (show 5 ≤ 5 from by decide) (x' := (⟨7, 0, 0, 0, 0⟩ : S40)) (k40_mkM _ _ _ (⟨7, 0, 0, 0, 0⟩ : S40) ) (fun _ hk => hk); have hx77_0 := hcc77 0 _ rfl; (try simp only [show (k40).sz = 5 from rfl, Nat.mul_one, Nat.add_zero] at hx77_0); have hf77_0 := hfr77 0; (try simp only [show (k40).sz = 5 from rfl, Nat.mul_one, Nat.add_zero] at hf77_0); have hx77_1 := hcc77 1 _ rfl; (try simp only [show (k40).sz = 5 from rfl, Nat.mul_one, Nat.add_zero] at hx77_1); have hf77_1 := hfr77 1; (try simp only [show (k40).sz = 5 from rfl, Nat.mul_one, Nat.add_zero] at hf77_1); have hx77_2 := hcc77 2 _ rfl; (try simp only [show (k40).sz = 5 from rfl, Nat.mul_one, Nat.add_zero] at hx77_2); have hf77_2 := hfr77 2; (try simp only [show (k40).sz = 5 from rfl, Nat.mul_one, Nat.add_zero] at hf77_2); have hx77_3 := hcc77 3 _ rfl; (try simp only [show (k40).sz = 5 from rfl, Nat.mul_one, Nat.add_zero] at hx77_3); have hf77_3 := hfr77 3; (try simp only [show (k40).sz = 5 from rfl, Nat.mul_one, Nat.add_zero] at hf77_3); have hx77_4 := hcc77 4 _ rfl; (try simp only [show (k40).sz = 5 from rfl, Nat.mul_one, Nat.add_zero] at hx77_4); have hf77_4 := hfr77 4; (try simp only [show (k40).sz = 5 from rfl, Nat.mul_one, Nat.add_zero] at hf77_4); clear hcl77 hcc77 hfr77 hM77) | ((with_reducible refine gate_store (t := 40) (p := 93) rfl ?_); refine store_event (t := 40) (p := 93) (v := ?vo_w78) (w1 := (((((w73.setCell ⟨go64, (x41_2 : Int).toNat * 5, none⟩ (.int .u8 7)).setCell ⟨go64, (x41_2 : Int).toNat * 5 + 1, none⟩ (.int .u8 0)).setCell ⟨go64, (x41_2 : Int).toNat * 5 + 2, none⟩ (.int .u8 0)).setCell ⟨go64, (x41_2 : Int).toNat * 5 + 3, none⟩ (.int .i16 0)).setCell ⟨go64, (x41_2 : Int).toNat * 5 + 4, none⟩ (.int .i32 0))) ?hg ?ho ?hn ?hr ?_; (case ho => rfl); (case hg => rfl); (case hn => rfl); (case hr => first | (go_simp; done) | (go_simp; rfl)); intro w78 hw; have hg : w73.grownBy w78 (some go64) := (by rw [hw]; exact HP77.2); have hp_ : Kd.R k40 40 w78 w.heap.size (fun k_ => k_ ≠ gb565) (.slice (some ⟨go64, 0, none⟩) x558001_2.length co64) y576 := (by rw [hw, Ny576.out]; exact HP77.1); clear HP77; have n0_ := Aside0.mk (Kd.R_over' (v := (.slice (some ⟨go64, 0, none⟩) x558001_2.length co64)) (by (with_reducible repeat (first | apply Kd.R_alloc | apply Kd.R_drewN | apply Kd.R_drew)); exact HO_4.out) (Kd.R_typed HO_558001.out) (by decide) hg); have n1_ := Aside0.mk (Kd.R_over' (v := (.slice (some ⟨go64, 0, none⟩) x558001_2.length co64)) (by (with_reducible repeat (first | apply Kd.R_alloc | apply Kd.R_drewN | apply Kd.R_drew)); exact HO_558000.out) (Kd.R_typed HO_558001.out) (by decide) hg); have n2_ := Aside0.mk (hp_); have n3_ := Aside0.mk (blk_grown (g := gb548) (o := .cells #[.slice A0_0 l0_0.length c0_0, .slice (some ad564) l0_1.length c0_1] 25 (0, 0)) bk_now hg (Kd.R_ne HO_558001.out BK548.out (by decide))); have n4_ := Aside0.mk (blk_grown (g := gb557) (o := .cells #[.slice Ao20 t551.length co20, .slice (some ⟨go64, 0, none⟩) x558001_2.length co64] 25 (0, 0)) bk_now hg (Kd.R_ne HO_558001.out BK557.out (by decide))); have n5_ := Aside0.mk (blk_grown (g := gb565) (o := .cells #[.int .u8 ((rd_T40 l0_1 x41_2).f0), .int .u8 ((rd_T40 l0_1 x41_2).f1), .int .u8 ((rd_T40 l0_1 x41_2).f2), .int .i16 ((rd_T40 l0_1 x41_2).f3), .int .i32 ((rd_T40 l0_1 x41_2).f4)] 40 (0, 0)) bk_now hg (Kd.R_away HO_558001.out (fun _ hk => hk))); have n6_ := Aside0.mk (blk_grown (g := gb573) (o := .cells #[.int .i64 t567, .int .i64 t568, .int .i64 t569, .bool t570, .bool t571] 45 (0, 0)) bk_now hg (Kd.R_ne HO_558001.out BK573.out (by decide))); have n7_ := Aside0.mk ((by rw [hw]; exact below_set (below_set (below_set (below_set (below_set (HB.out) GB64.out) GB64.out) GB64.out) GB64.out) GB64.out : Below w.heap.size w w78)); clear HO_4; clear HO_558000; clear HO_558001; clear BK548; clear BK557; clear BK565; clear BK573; clear HB; have HO_4 := n0_; have HO_558000 := n1_; have HO_558001 := n2_; have BK548 := n3_; have BK557 := n4_; have BK565 := n5_; have BK573 := n6_; have HB := n7_; clear n0_ n1_ n2_ n3_ n4_ n5_ n6_ n7_; clear hg hw hp_; have hnb79 := NB573_548.out; have hnc79 := NB548_573.out; have hcz80 := blk_all5 BK573.out; have hcz81 := blk_all2 BK548.out))
                        have n0_ := Aside0.mk (Kd.R_drew HO_4.out)
                        have n1_ := Aside0.mk (Kd.R_drew HO_558000.out)
                        have n2_ := Aside0.mk (Kd.R_drew HO_558001.out)
                        have n3_ := Aside0.mk (blk_drew BK548.out)
                        have n4_ := Aside0.mk (blk_drew BK557.out)
                        have n5_ := Aside0.mk (blk_drew BK565.out)
                        have n6_ := Aside0.mk (blk_drew BK573.out)
                        have n7_ := Aside0.mk (below_drew1 HB.out)
                        clear HO_4
                        clear HO_558000
                        clear HO_558001
                        clear BK548
                        clear BK557
                        clear BK565
                        clear BK573
                        clear HB
                        have HO_4 := n0_
                        have HO_558000 := n1_
                        have HO_558001 := n2_
                        have BK548 := n3_
                        have BK557 := n4_
                        have BK565 := n5_
                        have BK573 := n6_
                        have HB := n7_
                        clear n0_ n1_ n2_ n3_ n4_ n5_ n6_ n7_
                        refine start_ (n := 6) (S := fun w' => w'.cell? ⟨gb557, 0, none⟩ = some (.slice Ao20 t551.length co20) ∧ w'.cell? ⟨gb557, 1, none⟩ = some (.slice (some ⟨go64, 0, none⟩) x558001_2.length co64)) (ds := [5]) #[false, false, false, false, false, false] (by kernel_rfl) rfl rfl ⟨(blk_cell BK557.out 0).trans rfl, (blk_cell BK557.out 1).trans rfl⟩ (fun hHeld => ?_)
                        generalize w78.drew = w82 at HO_4 HO_558000 HO_558001 BK548 BK557 BK565 BK573 HB hHeld ⊢
                        refine pure_ (i := 0) (N := some 105) (v := ?_) (a' := ?_) #[true, false, false, false, false, false] rfl rfl (by kernel_rfl) (fun _ _ _ h => h) (Or.inl ⟨by rfl, ?_⟩) ?_ ?_
                        rotate_left
                        ·intro w'
                         go_simp
                         with_reducible rfl
                        rotate_left
                        ·simp only [Act.put, List.setIfInBounds_toArray, List.set_cons_zero, List.set_cons_succ, i64_w, i32_w]
                         rfl
                        refine pure_ (i := 2) (N := some 107) (v := ?_) (a' := ?_) #[true, false, true, false, false, false] rfl rfl (by kernel_rfl) (fun _ _ _ h => h) (Or.inl ⟨by rfl, ?_⟩) ?_ ?_
                        rotate_left
                        ·intro w'
                         go_simp
                         with_reducible rfl
                        rotate_left
                        ·simp only [Act.put, List.setIfInBounds_toArray, List.set_cons_zero, List.set_cons_succ, i64_w, i32_w]
                         rfl
                        refine take_ (i := 1) (N := some 106) (v := ?_) (a' := ?_) #[true, true, true, false, false, false] rfl rfl (by kernel_rfl) (fun _ _ _ h => h) (Or.inl ⟨by rfl, ?_⟩) hHeld ?_ ?_
                        rotate_left
                        ·rintro w' ⟨s0, s1⟩
                         go_simp
                         with_reducible rfl
                        rotate_left
                        ·simp only [Act.put, List.setIfInBounds_toArray, List.set_cons_zero, List.set_cons_succ, i64_w, i32_w]
                         rfl
                        refine one_ (i := 3) (N := some 108) #[true, true, true, true, false, false] rfl rfl (by kernel_rfl) (by decide) (fun K hK => ?_)
                        refine goes_ Tryd.func24 (by kernel_rfl) rfl #[] (by rfl) rfl rfl (by (try simp only [List.map_toArray, List.map_cons, List.map_nil]); first | done | rfl | (simp only [List.length_drop, List.length_take]; rfl)) ?_
                        with_reducible refine (stockadelaw04_exit.calls  t577 t578 t579 t580 t581 _ A67.out).mono ?_
                        rintro e w83 ⟨rfl, hb⟩
                        refine ⟨_, rfl, ?_⟩
                        have n0_ := Aside0.mk (Kd.R_below (by (with_reducible repeat (first | apply Kd.R_alloc | apply Kd.R_drewN | apply Kd.R_drew)); exact HO_4.out) hb)
                        have n1_ := Aside0.mk (Kd.R_below (by (with_reducible repeat (first | apply Kd.R_alloc | apply Kd.R_drewN | apply Kd.R_drew)); exact HO_558000.out) hb)
                        have n2_ := Aside0.mk (Kd.R_below (by (with_reducible repeat (first | apply Kd.R_alloc | apply Kd.R_drewN | apply Kd.R_drew)); exact HO_558001.out) hb)
                        have n3_ := Aside0.mk (blk_below (g := gb548) (o := .cells #[.slice A0_0 l0_0.length c0_0, .slice (some ad564) l0_1.length c0_1] 25 (0, 0)) bk_now hb)
                        have n4_ := Aside0.mk (blk_below (g := gb557) (o := .cells #[.slice Ao20 t551.length co20, .slice (some ⟨go64, 0, none⟩) x558001_2.length co64] 25 (0, 0)) bk_now hb)
                        have n5_ := Aside0.mk (blk_below (g := gb565) (o := .cells #[.int .u8 ((rd_T40 l0_1 x41_2).f0), .int .u8 ((rd_T40 l0_1 x41_2).f1), .int .u8 ((rd_T40 l0_1 x41_2).f2), .int .i16 ((rd_T40 l0_1 x41_2).f3), .int .i32 ((rd_T40 l0_1 x41_2).f4)] 40 (0, 0)) bk_now hb)
                        have n6_ := Aside0.mk (blk_below (g := gb573) (o := .cells #[.int .i64 t567, .int .i64 t568, .int .i64 t569, .bool t570, .bool t571] 45 (0, 0)) bk_now hb)
                        have n7_ := Aside0.mk (below_step b_now hb)
                        clear HO_4
                        clear HO_558000
                        clear HO_558001
                        clear BK548
                        clear BK557
                        clear BK565
                        clear BK573
                        clear HB
                        have HO_4 := n0_
                        have HO_558000 := n1_
                        have HO_558001 := n2_
                        have BK548 := n3_
                        have BK557 := n4_
                        have BK565 := n5_
                        have BK573 := n6_
                        have HB := n7_
                        clear n0_ n1_ n2_ n3_ n4_ n5_ n6_ n7_
                        (try clear hb)
                        (try clear hb2)
                        (try clear hk)
                        (try clear hi)
                        have p68 : 0 ≤ (x41_2 : Int) := of_decide_eq_true (by first | (with_reducible assumption) | assumption)
                        have q68 : (x41_2 : Int) < ((x558001_2.length : Int) : Int) := of_decide_eq_true (by first | (with_reducible assumption) | assumption)
                        obtain ⟨gh64, ch64, eh64, _, _, cm64, HG64⟩ := Kd.R_form HO_558001.out (by have := (Kd.R_reads' HO_558001.out).1; omega); (obtain rfl : go64 = gh64 := by (injection eh64 with ea_; injection ea_ with ea_; injection ea_)); have GH64 := Aside0.mk HG64; clear HG64; clear eh64
                        obtain ⟨ce68, hcl68, hM68, hcc68, hfr68⟩ := Kd.R_elem HO_558001.out z40 (x41_2 : Int) p68 q68
                        obtain rfl := k40_openM hM68
                        have hx68_0 : World.cell? _ ⟨go64, (x41_2 : Int).toNat * 5, none⟩ = some (.int .u8 ((rd_T40 y576 x41_2).f0)) := hcc68 0 _ rfl
                        have hx68_1 : World.cell? _ ⟨go64, (x41_2 : Int).toNat * 5 + 1, none⟩ = some (.int .u8 ((rd_T40 y576 x41_2).f1)) := hcc68 1 _ rfl
                        have hx68_2 : World.cell? _ ⟨go64, (x41_2 : Int).toNat * 5 + 2, none⟩ = some (.int .u8 ((rd_T40 y576 x41_2).f2)) := hcc68 2 _ rfl
                        have hx68_3 : World.cell? _ ⟨go64, (x41_2 : Int).toNat * 5 + 3, none⟩ = some (.int .i16 ((rd_T40 y576 x41_2).f3)) := hcc68 3 _ rfl
                        have hx68_4 : World.cell? _ ⟨go64, (x41_2 : Int).toNat * 5 + 4, none⟩ = some (.int .i32 ((rd_T40 y576 x41_2).f4)) := hcc68 4 _ rfl
                        have hf68_0 : World.frozen? _ ⟨go64, (x41_2 : Int).toNat * 5, none⟩ = false := hfr68 0
                        have hf68_1 : World.frozen? _ ⟨go64, (x41_2 : Int).toNat * 5 + 1, none⟩ = false := hfr68 1
                        have hf68_2 : World.frozen? _ ⟨go64, (x41_2 : Int).toNat * 5 + 2, none⟩ = false := hfr68 2
                        have hf68_3 : World.frozen? _ ⟨go64, (x41_2 : Int).toNat * 5 + 3, none⟩ = false := hfr68 3
                        have hf68_4 : World.frozen? _ ⟨go64, (x41_2 : Int).toNat * 5 + 4, none⟩ = false := hfr68 4
                        clear hcl68 hcc68 hfr68 hM68
                        replace p68 := eq_true p68
                        replace q68 := eq_true q68
                        obtain ⟨ce84, hcl84, hM84, hcc84, hfr84⟩ := Kd.R_elem HO_558001.out z40 (x41_2 : Int) (of_decide_eq_true (by first | (with_reducible assumption) | assumption)) (by have h_ : (x41_2 : Int) < ((x558001_2.length : Int) : Int) := of_decide_eq_true (by first | (with_reducible assumption) | assumption); first | exact h_ | (have e_ := (Kd.R_reads' HO_558001.out).1; omega) | simpa using h_)
                        obtain rfl := k40_openM hM84
                        have HP84 := (Kd.R_seg HO_558001.out (x41_2 : Int) (of_decide_eq_true (by first | (with_reducible assumption) | assumption)) (by have h_ : (x41_2 : Int) < ((x558001_2.length : Int) : Int) := of_decide_eq_true (by first | (with_reducible assumption) | assumption); first | exact h_ | (have e_ := (Kd.R_reads' HO_558001.out).1; omega) | simpa using h_) (seg := [.int .u8 t577, .int .u8 t578, .int .u8 t579, .int .i16 t580, .int .i32 t581]) (j := 0) hcl84 hcc84 (show 5 ≤ 5 from by decide) (x' := (⟨t577, t578, t579, t580, t581⟩ : S40)) (k40_mkM _ _ _ (⟨t577, t578, t579, t580, t581⟩ : S40) ) (fun _ hk => hk)).1
                        rw [← Ny582.out] at HP84
                        have HQ84 := Aside0.mk HP84
                        clear hcl84 hcc84 hfr84 hM84 HP84
                        refine hK.out _ _ ⟨(blk_cell BK557.out 0).trans rfl, (blk_cell BK557.out 1).trans rfl⟩ (fun hHeld => ?_)
                        clear hK K
                        refine norm_ (a' := ?_) ?_ ?_
                        rotate_left
                        ·show Act.put _ (some 108) _ = _
                         simp only [Act.put, List.setIfInBounds_toArray, List.set_cons_zero, List.set_cons_succ, i64_w, i32_w]
                         rfl
                        refine pure_ (i := 4) (N := some 109) (v := ?_) (a' := ?_) #[true, true, true, true, true, false] rfl rfl (by kernel_rfl) (fun _ _ _ h => h) (Or.inl ⟨by rfl, ?_⟩) ?_ ?_
                        rotate_left
                        ·intro w'
                         go_simp
                         with_reducible rfl
                        rotate_left
                        ·simp only [Act.put, List.setIfInBounds_toArray, List.set_cons_zero, List.set_cons_succ, i64_w, i32_w]
                         rfl
                        refine last_ (i := 5) (N := none) #[true, true, true, true, true, true] rfl rfl (by kernel_rfl) (by decide) (fun K hK => ?_)
                        refine skip_ (w1 := ?_) (by rfl) rfl ?_ ?_
                        rotate_left
                        ·go_simp
                         rfl
                        refine hK.out _ _ ?_
                        clear hK K
                        refine done_ (by kernel_rfl) ?_
                        try go_wp2
                        go_roundg kj34
                        case measure => have := HJ3.out; have := HK2.out; have := HJ34.out; omega
                        case rel => exact ⟨(rdOf false t558 t574), (x41_2), (wrap64 (x41_2 + 1)), (y582), (.slice (some ⟨go64, 0, none⟩) x558001_2.length co64), eq_now, eq_now, eq_now, H', ⟨by have := HJ3.out; have := HK2.out; have := HJ34.out; omega⟩, ⟨by (with_reducible repeat (first | apply Kd.R_alloc | apply Kd.R_drewN | apply Kd.R_drew)); exact Kd.R_mono (Kd.R_far (p := ⟨go64, (x41_2 : Int).toNat * 5 + 4, none⟩) (Kd.R_far (p := ⟨go64, (x41_2 : Int).toNat * 5 + 3, none⟩) (Kd.R_far (p := ⟨go64, (x41_2 : Int).toNat * 5 + 2, none⟩) (Kd.R_far (p := ⟨go64, (x41_2 : Int).toNat * 5 + 1, none⟩) (Kd.R_far (p := ⟨go64, (x41_2 : Int).toNat * 5, none⟩) (Kd.R_types HO_4.out GH64.out (by decide)) (fun _ hk => hk.2) (.int .u8 t577)) (fun _ hk => hk.2) (.int .u8 t578)) (fun _ hk => hk.2) (.int .u8 t579)) (fun _ hk => hk.2) (.int .i16 t580)) (fun _ hk => hk.2) (.int .i32 t581)) (fun _ hk => trivial)⟩, ⟨by (with_reducible repeat (first | apply Kd.R_alloc | apply Kd.R_drewN | apply Kd.R_drew)); exact Kd.R_mono (Kd.R_far (p := ⟨go64, (x41_2 : Int).toNat * 5 + 4, none⟩) (Kd.R_far (p := ⟨go64, (x41_2 : Int).toNat * 5 + 3, none⟩) (Kd.R_far (p := ⟨go64, (x41_2 : Int).toNat * 5 + 2, none⟩) (Kd.R_far (p := ⟨go64, (x41_2 : Int).toNat * 5 + 1, none⟩) (Kd.R_far (p := ⟨go64, (x41_2 : Int).toNat * 5, none⟩) (Kd.R_types HO_558000.out GH64.out (by decide)) (fun _ hk => hk.2) (.int .u8 t577)) (fun _ hk => hk.2) (.int .u8 t578)) (fun _ hk => hk.2) (.int .u8 t579)) (fun _ hk => hk.2) (.int .i16 t580)) (fun _ hk => hk.2) (.int .i32 t581)) (fun _ hk => trivial)⟩, ⟨by (with_reducible repeat (first | apply Kd.R_alloc | apply Kd.R_drewN | apply Kd.R_drew)); exact Kd.R_mono HQ84.out (fun _ hk => trivial)⟩, ⟨by (with_reducible repeat (first | refine blk_drewN ?_ _ | refine blk_drew ?_ | refine blk_alloc ?_ _)); refine blk_far ?_ (by have h_ := Kd.R_ne HO_558001.out BK548.out (by decide); intro e_; exact h_ (by rw [e_]; rfl)) _; (with_reducible repeat (first | refine blk_drewN ?_ _ | refine blk_drew ?_ | refine blk_alloc ?_ _)); refine blk_far ?_ (by have h_ := Kd.R_ne HO_558001.out BK548.out (by decide); intro e_; exact h_ (by rw [e_]; rfl)) _; (with_reducible repeat (first | refine blk_drewN ?_ _ | refine blk_drew ?_ | refine blk_alloc ?_ _)); refine blk_far ?_ (by have h_ := Kd.R_ne HO_558001.out BK548.out (by decide); intro e_; exact h_ (by rw [e_]; rfl)) _; (with_reducible repeat (first | refine blk_drewN ?_ _ | refine blk_drew ?_ | refine blk_alloc ?_ _)); refine blk_far ?_ (by have h_ := Kd.R_ne HO_558001.out BK548.out (by decide); intro e_; exact h_ (by rw [e_]; rfl)) _; (with_reducible repeat (first | refine blk_drewN ?_ _ | refine blk_drew ?_ | refine blk_alloc ?_ _)); refine blk_far ?_ (by have h_ := Kd.R_ne HO_558001.out BK548.out (by decide); intro e_; exact h_ (by rw [e_]; rfl)) _; (with_reducible repeat (first | refine blk_drewN ?_ _ | refine blk_drew ?_ | refine blk_alloc ?_ _)); exact BK548.out⟩, ⟨by (with_reducible repeat (first | refine blk_drewN ?_ _ | refine blk_drew ?_ | refine blk_alloc ?_ _)); refine blk_far ?_ (by have h_ := Kd.R_ne HO_558001.out BK557.out (by decide); intro e_; exact h_ (by rw [e_]; rfl)) _; (with_reducible repeat (first | refine blk_drewN ?_ _ | refine blk_drew ?_ | refine blk_alloc ?_ _)); refine blk_far ?_ (by have h_ := Kd.R_ne HO_558001.out BK557.out (by decide); intro e_; exact h_ (by rw [e_]; rfl)) _; (with_reducible repeat (first | refine blk_drewN ?_ _ | refine blk_drew ?_ | refine blk_alloc ?_ _)); refine blk_far ?_ (by have h_ := Kd.R_ne HO_558001.out BK557.out (by decide); intro e_; exact h_ (by rw [e_]; rfl)) _; (with_reducible repeat (first | refine blk_drewN ?_ _ | refine blk_drew ?_ | refine blk_alloc ?_ _)); refine blk_far ?_ (by have h_ := Kd.R_ne HO_558001.out BK557.out (by decide); intro e_; exact h_ (by rw [e_]; rfl)) _; (with_reducible repeat (first | refine blk_drewN ?_ _ | refine blk_drew ?_ | refine blk_alloc ?_ _)); refine blk_far ?_ (by have h_ := Kd.R_ne HO_558001.out BK557.out (by decide); intro e_; exact h_ (by rw [e_]; rfl)) _; (with_reducible repeat (first | refine blk_drewN ?_ _ | refine blk_drew ?_ | refine blk_alloc ?_ _)); exact BK557.out⟩, ⟨by repeat (first | (with_reducible first | exact HB.out | apply below_alloc | apply pw_below_drewN | apply below_drew1 | refine below_set ?_ GB64.out | refine below_set ?_ GB64.out | refine below_set ?_ GB64.out | refine below_set ?_ GB64.out | refine below_set ?_ GB64.out | refine below_set ?_ GE548.out | refine below_set ?_ GE557.out | refine below_set ?_ GE565.out | refine below_set ?_ GE573.out) | exact HB.out)⟩⟩
                       ·rw [if_neg c66] at H
                        have c66b0 : (x41_2 == (wrap64 ((l0_1.length : Int) - 1))) = false := beq_eq_false_iff_ne.mpr c66
                        have c66b1 : (x41_2 != (wrap64 ((l0_1.length : Int) - 1))) = true := bne_iff_ne.mpr c66
                        have H' := Aside0.mk H
                        clear H
                        have hnb85 := NB565_548.out
                        have hnc85 := NB548_565.out
                        have hnb86 := NB565_557.out
                        have hnc86 := NB557_565.out
                        have hnb87 := NB565_573.out
                        have hnc87 := NB573_565.out
                        have hcz88 := blk_all5 BK565.out
                        go_wp2_with (first | ((with_reducible refine gate_callee (f := 19) rfl ?_); refine sh_call (some 71) Tryd.func19 #[.int .i64 x41_2, .agg #[.int .u8 ((rd_T40 l0_1 x41_2).f0), .int .u8 ((rd_T40 l0_1 x41_2).f1), .int .u8 ((rd_T40 l0_1 x41_2).f2), .int .i16 ((rd_T40 l0_1 x41_2).f3), .int .i32 ((rd_T40 l0_1 x41_2).f4)]] ?_; (with_reducible refine (shape_Target.calls x41_2 ((rd_T40 l0_1 x41_2).f0) ((rd_T40 l0_1 x41_2).f1) ((rd_T40 l0_1 x41_2).f2) ((rd_T40 l0_1 x41_2).f3) ((rd_T40 l0_1 x41_2).f4) t574 _ A57.out).mono ?_); rintro e w89 ⟨rfl, hb⟩; refine ⟨_, rfl, ?_⟩; replace HO_4 := Aside0.mk (Kd.R_below (by (with_reducible repeat (first | apply Kd.R_alloc | apply Kd.R_drewN | apply Kd.R_drew)); exact HO_4.out) hb); replace HO_558000 := Aside0.mk (Kd.R_below (by (with_reducible repeat (first | apply Kd.R_alloc | apply Kd.R_drewN | apply Kd.R_drew)); exact HO_558000.out) hb); replace HO_558001 := Aside0.mk (Kd.R_below (by (with_reducible repeat (first | apply Kd.R_alloc | apply Kd.R_drewN | apply Kd.R_drew)); exact HO_558001.out) hb); replace BK548 := sh_k BK548 hb; replace BK557 := sh_k BK557 hb; replace BK565 := sh_k BK565 hb; replace BK573 := sh_k BK573 hb; replace HB := sh_b (w := w) hb; (try clear hb); (try clear hb2); (try clear hk); (try clear hi); have p575 : 0 ≤ (t574 : Int) := of_decide_eq_true (by first | (with_reducible assumption) | assumption); have q575 : t574 < (t558.length : Int) := of_decide_eq_true (by first | (with_reducible assumption) | assumption); obtain ⟨ad575, e575, hx575_0⟩ := Kd.at_bool (Kd.R_reads' HO_4.out).2.2 t574 p575 q575; (try rw [← Nbq32.out] at hx575_0); obtain rfl : ad566 = ad575 := (by injection e575); replace p575 := eq_true p575; replace q575 := eq_true q575; have hnb90 := NB557_548.out; have hnc90 := NB548_557.out; have hnb91 := NB557_573.out; have hnc91 := NB573_557.out; have hcz92 := blk_all2 BK557.out; have p64 : 0 ≤ (x41_2 : Int) := of_decide_eq_true (by first | (with_reducible assumption) | assumption); have q64 : (x41_2 : Int) < ((x558001_2.length : Int) : Int) := of_decide_eq_true (by first | (with_reducible assumption) | assumption); obtain ⟨go64, co64, eo64, gb64, gl64, cl64, HG64⟩ := Kd.R_form HO_558001.out (by omega); (first | cases eo64 | (injection eo64 with ea_ en_ ec_; (first | subst ea_ | (injection ea_ with ea_; subst ea_)); subst ec_; clear en_)); have GB64 := Aside0.mk gb64; have GG64 := Aside0.mk HG64; clear gb64 gl64 HG64; obtain ⟨ce64, hcl64, hM64, hcc64, hfr64⟩ := Kd.R_elem HO_558001.out z40 (x41_2 : Int) p64 q64; obtain rfl := k40_openM hM64; have hx64_0 : w89.cell? ⟨go64, (x41_2 : Int).toNat * 5, none⟩ = some (.int .u8 ((rd_T40 x558001_2 x41_2).f0)) := hcc64 0 _ rfl; have hx64_1 : w89.cell? ⟨go64, (x41_2 : Int).toNat * 5 + 1, none⟩ = some (.int .u8 ((rd_T40 x558001_2 x41_2).f1)) := hcc64 1 _ rfl; have hx64_2 : w89.cell? ⟨go64, (x41_2 : Int).toNat * 5 + 2, none⟩ = some (.int .u8 ((rd_T40 x558001_2 x41_2).f2)) := hcc64 2 _ rfl; have hx64_3 : w89.cell? ⟨go64, (x41_2 : Int).toNat * 5 + 3, none⟩ = some (.int .i16 ((rd_T40 x558001_2 x41_2).f3)) := hcc64 3 _ rfl; have hx64_4 : w89.cell? ⟨go64, (x41_2 : Int).toNat * 5 + 4, none⟩ = some (.int .i32 ((rd_T40 x558001_2 x41_2).f4)) := hcc64 4 _ rfl; have hf64_0 : w89.frozen? ⟨go64, (x41_2 : Int).toNat * 5, none⟩ = false := hfr64 0; have hf64_1 : w89.frozen? ⟨go64, (x41_2 : Int).toNat * 5 + 1, none⟩ = false := hfr64 1; have hf64_2 : w89.frozen? ⟨go64, (x41_2 : Int).toNat * 5 + 2, none⟩ = false := hfr64 2; have hf64_3 : w89.frozen? ⟨go64, (x41_2 : Int).toNat * 5 + 3, none⟩ = false := hfr64 3; have hf64_4 : w89.frozen? ⟨go64, (x41_2 : Int).toNat * 5 + 4, none⟩ = false := hfr64 4; clear hcl64 hcc64 hfr64 hM64; replace p64 := eq_true p64; replace q64 := eq_true q64; have HX93 := Aside0.mk (show Kd.R k40 40 w89 w.heap.size (fun k_ => k_ ≠ gb565) (.slice (some ⟨go64, 0, none⟩) x558001_2.length co64) x558001_2 from (by (with_reducible repeat (first | apply Kd.R_alloc | apply Kd.R_drewN | apply Kd.R_drew)); exact HO_558001.out)); obtain ⟨ce93, hcl93, hM93, hcc93, hfr93⟩ := Kd.R_elem HX93.out z40 (x41_2 : Int) (of_decide_eq_true (by first | (with_reducible assumption) | assumption)) (by have h_ : (x41_2 : Int) < ((x558001_2.length : Int) : Int) := of_decide_eq_true (by first | (with_reducible assumption) | assumption); first | exact h_ | (have e_ := (Kd.R_reads' HO_558001.out).1; omega) | simpa using h_); obtain rfl := k40_openM hM93; have HP93 := Kd.R_seg HX93.out (x41_2 : Int) (of_decide_eq_true (by first | (with_reducible assumption) | assumption)) (by have h_ : (x41_2 : Int) < ((x558001_2.length : Int) : Int) := of_decide_eq_true (by first | (with_reducible assumption) | assumption); first | exact h_ | (have e_ := (Kd.R_reads' HO_558001.out).1; omega) | simpa using h_) (seg := [.int .u8 7, .int .u8 0, .int .u8 0, .int .i16 0, .int .i32 0]) (j := 0) hcl93 hcc93 (show 5 ≤ 5 from by decide) (x' := (⟨7, 0, 0, 0, 0⟩ : S40)) (k40_mkM _ _ _ (⟨7, 0, 0, 0, 0⟩ : S40) ) (fun _ hk => hk); have hx93_0 := hcc93 0 _ rfl; (try simp only [show (k40).sz = 5 from rfl, Nat.mul_one, Nat.add_zero] at hx93_0); have hf93_0 := hfr93 0; (try simp only [show (k40).sz = 5 from rfl, Nat.mul_one, Nat.add_zero] at hf93_0); have hx93_1 := hcc93 1 _ rfl; (try simp only [show (k40).sz = 5 from rfl, Nat.mul_one, Nat.add_zero] at hx93_1); have hf93_1 := hfr93 1; (try simp only [show (k40).sz = 5 from rfl, Nat.mul_one, Nat.add_zero] at hf93_1); have hx93_2 := hcc93 2 _ rfl; (try simp only [show (k40).sz = 5 from rfl, Nat.mul_one, Nat.add_zero] at hx93_2); have hf93_2 := hfr93 2; (try simp only [show (k40).sz = 5 from rfl, Nat.mul_one, Nat.add_zero] at hf93_2); have hx93_3 := hcc93 3 _ rfl; (try simp only [show (k40).sz = 5 from rfl, Nat.mul_one, Nat.add_zero] at hx93_3); have hf93_3 := hfr93 3; (try simp only [show (k40).sz = 5 from rfl, Nat.mul_one, Nat.add_zero] at hf93_3); have hx93_4 := hcc93 4 _ rfl; (try simp only [show (k40).sz = 5 from rfl, Nat.mul_one, Nat.add_zero] at hx93_4); have hf93_4 := hfr93 4; (try simp only [show (k40).sz = 5 from rfl, Nat.mul_one, Nat.add_zero] at hf93_4); clear hcl93 hcc93 hfr93 hM93) | ((with_reducible refine gate_store (t := 40) (p := 93) rfl ?_); refine store_event (t := 40) (p := 93) (v := ?vo_w94) (w1 := (((((w89.setCell ⟨go64, (x41_2 : Int).toNat * 5, none⟩ (.int .u8 7)).setCell ⟨go64, (x41_2 : Int).toNat * 5 + 1, none⟩ (.int .u8 0)).setCell ⟨go64, (x41_2 : Int).toNat * 5 + 2, none⟩ (.int .u8 0)).setCell ⟨go64, (x41_2 : Int).toNat * 5 + 3, none⟩ (.int .i16 0)).setCell ⟨go64, (x41_2 : Int).toNat * 5 + 4, none⟩ (.int .i32 0))) ?hg ?ho ?hn ?hr ?_; (case ho => rfl); (case hg => rfl); (case hn => rfl); (case hr => first | (go_simp; done) | (go_simp; rfl)); intro w94 hw; have hg : w89.grownBy w94 (some go64) := (by rw [hw]; exact HP93.2); have hp_ : Kd.R k40 40 w94 w.heap.size (fun k_ => k_ ≠ gb565) (.slice (some ⟨go64, 0, none⟩) x558001_2.length co64) y576 := (by rw [hw, Ny576.out]; exact HP93.1); clear HP93; have n0_ := Aside0.mk (Kd.R_over' (v := (.slice (some ⟨go64, 0, none⟩) x558001_2.length co64)) (by (with_reducible repeat (first | apply Kd.R_alloc | apply Kd.R_drewN | apply Kd.R_drew)); exact HO_4.out) (Kd.R_typed HO_558001.out) (by decide) hg); have n1_ := Aside0.mk (Kd.R_over' (v := (.slice (some ⟨go64, 0, none⟩) x558001_2.length co64)) (by (with_reducible repeat (first | apply Kd.R_alloc | apply Kd.R_drewN | apply Kd.R_drew)); exact HO_558000.out) (Kd.R_typed HO_558001.out) (by decide) hg); have n2_ := Aside0.mk (hp_); have n3_ := Aside0.mk (blk_grown (g := gb548) (o := .cells #[.slice A0_0 l0_0.length c0_0, .slice (some ad564) l0_1.length c0_1] 25 (0, 0)) bk_now hg (Kd.R_ne HO_558001.out BK548.out (by decide))); have n4_ := Aside0.mk (blk_grown (g := gb557) (o := .cells #[.slice Ao20 t551.length co20, .slice (some ⟨go64, 0, none⟩) x558001_2.length co64] 25 (0, 0)) bk_now hg (Kd.R_ne HO_558001.out BK557.out (by decide))); have n5_ := Aside0.mk (blk_grown (g := gb565) (o := .cells #[.int .u8 ((rd_T40 l0_1 x41_2).f0), .int .u8 ((rd_T40 l0_1 x41_2).f1), .int .u8 ((rd_T40 l0_1 x41_2).f2), .int .i16 ((rd_T40 l0_1 x41_2).f3), .int .i32 ((rd_T40 l0_1 x41_2).f4)] 40 (0, 0)) bk_now hg (Kd.R_away HO_558001.out (fun _ hk => hk))); have n6_ := Aside0.mk (blk_grown (g := gb573) (o := .cells #[.int .i64 t567, .int .i64 t568, .int .i64 t569, .bool t570, .bool t571] 45 (0, 0)) bk_now hg (Kd.R_ne HO_558001.out BK573.out (by decide))); have n7_ := Aside0.mk ((by rw [hw]; exact below_set (below_set (below_set (below_set (below_set (HB.out) GB64.out) GB64.out) GB64.out) GB64.out) GB64.out : Below w.heap.size w w94)); clear HO_4; clear HO_558000; clear HO_558001; clear BK548; clear BK557; clear BK565; clear BK573; clear HB; have HO_4 := n0_; have HO_558000 := n1_; have HO_558001 := n2_; have BK548 := n3_; have BK557 := n4_; have BK565 := n5_; have BK573 := n6_; have HB := n7_; clear n0_ n1_ n2_ n3_ n4_ n5_ n6_ n7_; clear hg hw hp_; have hnb95 := NB573_548.out; have hnc95 := NB548_573.out; have hcz96 := blk_all5 BK573.out; have hcz97 := blk_all2 BK548.out))
                        go_roundg kj34
                        case measure => have := HJ3.out; have := HK2.out; have := HJ34.out; omega
                        case rel => exact ⟨(rdOf false t558 t574), (x41_2), (wrap64 (x41_2 + 1)), (y576), (.slice (some ⟨go64, 0, none⟩) x558001_2.length co64), eq_now, eq_now, eq_now, H', ⟨by have := HJ3.out; have := HK2.out; have := HJ34.out; omega⟩, ⟨by (with_reducible repeat (first | apply Kd.R_alloc | apply Kd.R_drewN | apply Kd.R_drew)); exact HO_4.out⟩, ⟨by (with_reducible repeat (first | apply Kd.R_alloc | apply Kd.R_drewN | apply Kd.R_drew)); exact HO_558000.out⟩, ⟨by (with_reducible repeat (first | apply Kd.R_alloc | apply Kd.R_drewN | apply Kd.R_drew)); exact Kd.R_mono HO_558001.out (fun _ hk => trivial)⟩, ⟨bk_now⟩, ⟨bk_now⟩, ⟨b_now⟩⟩
                      ·rw [if_neg c65] at H
                       have c65b0 : (t567 == 7) = false := beq_eq_false_iff_ne.mpr c65
                       have c65b1 : (t567 != 7) = true := bne_iff_ne.mpr c65
                       have H' := Aside0.mk H
                       clear H
                       have hnb98 := NB565_548.out
                       have hnc98 := NB548_565.out
                       have hnb99 := NB565_557.out
                       have hnc99 := NB557_565.out
                       have hnb100 := NB565_573.out
                       have hnc100 := NB573_565.out
                       have hcz101 := blk_all5 BK565.out
                       go_wp2_with (first | ((with_reducible refine gate_callee (f := 19) rfl ?_); refine sh_call (some 71) Tryd.func19 #[.int .i64 x41_2, .agg #[.int .u8 ((rd_T40 l0_1 x41_2).f0), .int .u8 ((rd_T40 l0_1 x41_2).f1), .int .u8 ((rd_T40 l0_1 x41_2).f2), .int .i16 ((rd_T40 l0_1 x41_2).f3), .int .i32 ((rd_T40 l0_1 x41_2).f4)]] ?_; (with_reducible refine (shape_Target.calls x41_2 ((rd_T40 l0_1 x41_2).f0) ((rd_T40 l0_1 x41_2).f1) ((rd_T40 l0_1 x41_2).f2) ((rd_T40 l0_1 x41_2).f3) ((rd_T40 l0_1 x41_2).f4) t574 _ A57.out).mono ?_); rintro e w102 ⟨rfl, hb⟩; refine ⟨_, rfl, ?_⟩; replace HO_4 := Aside0.mk (Kd.R_below (by (with_reducible repeat (first | apply Kd.R_alloc | apply Kd.R_drewN | apply Kd.R_drew)); exact HO_4.out) hb); replace HO_558000 := Aside0.mk (Kd.R_below (by (with_reducible repeat (first | apply Kd.R_alloc | apply Kd.R_drewN | apply Kd.R_drew)); exact HO_558000.out) hb); replace HO_558001 := Aside0.mk (Kd.R_below (by (with_reducible repeat (first | apply Kd.R_alloc | apply Kd.R_drewN | apply Kd.R_drew)); exact HO_558001.out) hb); replace BK548 := sh_k BK548 hb; replace BK557 := sh_k BK557 hb; replace BK565 := sh_k BK565 hb; replace BK573 := sh_k BK573 hb; replace HB := sh_b (w := w) hb; (try clear hb); (try clear hb2); (try clear hk); (try clear hi); have p575 : 0 ≤ (t574 : Int) := of_decide_eq_true (by first | (with_reducible assumption) | assumption); have q575 : t574 < (t558.length : Int) := of_decide_eq_true (by first | (with_reducible assumption) | assumption); obtain ⟨ad575, e575, hx575_0⟩ := Kd.at_bool (Kd.R_reads' HO_4.out).2.2 t574 p575 q575; (try rw [← Nbq32.out] at hx575_0); obtain rfl : ad566 = ad575 := (by injection e575); replace p575 := eq_true p575; replace q575 := eq_true q575; have hnb103 := NB557_548.out; have hnc103 := NB548_557.out; have hnb104 := NB557_573.out; have hnc104 := NB573_557.out; have hcz105 := blk_all2 BK557.out; have p64 : 0 ≤ (x41_2 : Int) := of_decide_eq_true (by first | (with_reducible assumption) | assumption); have q64 : (x41_2 : Int) < ((x558001_2.length : Int) : Int) := of_decide_eq_true (by first | (with_reducible assumption) | assumption); obtain ⟨go64, co64, eo64, gb64, gl64, cl64, HG64⟩ := Kd.R_form HO_558001.out (by omega); (first | cases eo64 | (injection eo64 with ea_ en_ ec_; (first | subst ea_ | (injection ea_ with ea_; subst ea_)); subst ec_; clear en_)); have GB64 := Aside0.mk gb64; have GG64 := Aside0.mk HG64; clear gb64 gl64 HG64; obtain ⟨ce64, hcl64, hM64, hcc64, hfr64⟩ := Kd.R_elem HO_558001.out z40 (x41_2 : Int) p64 q64; obtain rfl := k40_openM hM64; have hx64_0 : w102.cell? ⟨go64, (x41_2 : Int).toNat * 5, none⟩ = some (.int .u8 ((rd_T40 x558001_2 x41_2).f0)) := hcc64 0 _ rfl; have hx64_1 : w102.cell? ⟨go64, (x41_2 : Int).toNat * 5 + 1, none⟩ = some (.int .u8 ((rd_T40 x558001_2 x41_2).f1)) := hcc64 1 _ rfl; have hx64_2 : w102.cell? ⟨go64, (x41_2 : Int).toNat * 5 + 2, none⟩ = some (.int .u8 ((rd_T40 x558001_2 x41_2).f2)) := hcc64 2 _ rfl; have hx64_3 : w102.cell? ⟨go64, (x41_2 : Int).toNat * 5 + 3, none⟩ = some (.int .i16 ((rd_T40 x558001_2 x41_2).f3)) := hcc64 3 _ rfl; have hx64_4 : w102.cell? ⟨go64, (x41_2 : Int).toNat * 5 + 4, none⟩ = some (.int .i32 ((rd_T40 x558001_2 x41_2).f4)) := hcc64 4 _ rfl; have hf64_0 : w102.frozen? ⟨go64, (x41_2 : Int).toNat * 5, none⟩ = false := hfr64 0; have hf64_1 : w102.frozen? ⟨go64, (x41_2 : Int).toNat * 5 + 1, none⟩ = false := hfr64 1; have hf64_2 : w102.frozen? ⟨go64, (x41_2 : Int).toNat * 5 + 2, none⟩ = false := hfr64 2; have hf64_3 : w102.frozen? ⟨go64, (x41_2 : Int).toNat * 5 + 3, none⟩ = false := hfr64 3; have hf64_4 : w102.frozen? ⟨go64, (x41_2 : Int).toNat * 5 + 4, none⟩ = false := hfr64 4; clear hcl64 hcc64 hfr64 hM64; replace p64 := eq_true p64; replace q64 := eq_true q64; have HX106 := Aside0.mk (show Kd.R k40 40 w102 w.heap.size (fun k_ => k_ ≠ gb565) (.slice (some ⟨go64, 0, none⟩) x558001_2.length co64) x558001_2 from (by (with_reducible repeat (first | apply Kd.R_alloc | apply Kd.R_drewN | apply Kd.R_drew)); exact HO_558001.out)); obtain ⟨ce106, hcl106, hM106, hcc106, hfr106⟩ := Kd.R_elem HX106.out z40 (x41_2 : Int) (of_decide_eq_true (by first | (with_reducible assumption) | assumption)) (by have h_ : (x41_2 : Int) < ((x558001_2.length : Int) : Int) := of_decide_eq_true (by first | (with_reducible assumption) | assumption); first | exact h_ | (have e_ := (Kd.R_reads' HO_558001.out).1; omega) | simpa using h_); obtain rfl := k40_openM hM106; have HP106 := Kd.R_seg HX106.out (x41_2 : Int) (of_decide_eq_true (by first | (with_reducible assumption) | assumption)) (by have h_ : (x41_2 : Int) < ((x558001_2.length : Int) : Int) := of_decide_eq_true (by first | (with_reducible assumption) | assumption); first | exact h_ | (have e_ := (Kd.R_reads' HO_558001.out).1; omega) | simpa using h_) (seg := [.int .u8 7, .int .u8 0, .int .u8 0, .int .i16 0, .int .i32 0]) (j := 0) hcl106 hcc106 (show 5 ≤ 5 from by decide) (x' := (⟨7, 0, 0, 0, 0⟩ : S40)) (k40_mkM _ _ _ (⟨7, 0, 0, 0, 0⟩ : S40) ) (fun _ hk => hk); have hx106_0 := hcc106 0 _ rfl; (try simp only [show (k40).sz = 5 from rfl, Nat.mul_one, Nat.add_zero] at hx106_0); have hf106_0 := hfr106 0; (try simp only [show (k40).sz = 5 from rfl, Nat.mul_one, Nat.add_zero] at hf106_0); have hx106_1 := hcc106 1 _ rfl; (try simp only [show (k40).sz = 5 from rfl, Nat.mul_one, Nat.add_zero] at hx106_1); have hf106_1 := hfr106 1; (try simp only [show (k40).sz = 5 from rfl, Nat.mul_one, Nat.add_zero] at hf106_1); have hx106_2 := hcc106 2 _ rfl; (try simp only [show (k40).sz = 5 from rfl, Nat.mul_one, Nat.add_zero] at hx106_2); have hf106_2 := hfr106 2; (try simp only [show (k40).sz = 5 from rfl, Nat.mul_one, Nat.add_zero] at hf106_2); have hx106_3 := hcc106 3 _ rfl; (try simp only [show (k40).sz = 5 from rfl, Nat.mul_one, Nat.add_zero] at hx106_3); have hf106_3 := hfr106 3; (try simp only [show (k40).sz = 5 from rfl, Nat.mul_one, Nat.add_zero] at hf106_3); have hx106_4 := hcc106 4 _ rfl; (try simp only [show (k40).sz = 5 from rfl, Nat.mul_one, Nat.add_zero] at hx106_4); have hf106_4 := hfr106 4; (try simp only [show (k40).sz = 5 from rfl, Nat.mul_one, Nat.add_zero] at hf106_4); clear hcl106 hcc106 hfr106 hM106) | ((with_reducible refine gate_store (t := 40) (p := 93) rfl ?_); refine store_event (t := 40) (p := 93) (v := ?vo_w107) (w1 := (((((w102.setCell ⟨go64, (x41_2 : Int).toNat * 5, none⟩ (.int .u8 7)).setCell ⟨go64, (x41_2 : Int).toNat * 5 + 1, none⟩ (.int .u8 0)).setCell ⟨go64, (x41_2 : Int).toNat * 5 + 2, none⟩ (.int .u8 0)).setCell ⟨go64, (x41_2 : Int).toNat * 5 + 3, none⟩ (.int .i16 0)).setCell ⟨go64, (x41_2 : Int).toNat * 5 + 4, none⟩ (.int .i32 0))) ?hg ?ho ?hn ?hr ?_; (case ho => rfl); (case hg => rfl); (case hn => rfl); (case hr => first | (go_simp; done) | (go_simp; rfl)); intro w107 hw; have hg : w102.grownBy w107 (some go64) := (by rw [hw]; exact HP106.2); have hp_ : Kd.R k40 40 w107 w.heap.size (fun k_ => k_ ≠ gb565) (.slice (some ⟨go64, 0, none⟩) x558001_2.length co64) y576 := (by rw [hw, Ny576.out]; exact HP106.1); clear HP106; have n0_ := Aside0.mk (Kd.R_over' (v := (.slice (some ⟨go64, 0, none⟩) x558001_2.length co64)) (by (with_reducible repeat (first | apply Kd.R_alloc | apply Kd.R_drewN | apply Kd.R_drew)); exact HO_4.out) (Kd.R_typed HO_558001.out) (by decide) hg); have n1_ := Aside0.mk (Kd.R_over' (v := (.slice (some ⟨go64, 0, none⟩) x558001_2.length co64)) (by (with_reducible repeat (first | apply Kd.R_alloc | apply Kd.R_drewN | apply Kd.R_drew)); exact HO_558000.out) (Kd.R_typed HO_558001.out) (by decide) hg); have n2_ := Aside0.mk (hp_); have n3_ := Aside0.mk (blk_grown (g := gb548) (o := .cells #[.slice A0_0 l0_0.length c0_0, .slice (some ad564) l0_1.length c0_1] 25 (0, 0)) bk_now hg (Kd.R_ne HO_558001.out BK548.out (by decide))); have n4_ := Aside0.mk (blk_grown (g := gb557) (o := .cells #[.slice Ao20 t551.length co20, .slice (some ⟨go64, 0, none⟩) x558001_2.length co64] 25 (0, 0)) bk_now hg (Kd.R_ne HO_558001.out BK557.out (by decide))); have n5_ := Aside0.mk (blk_grown (g := gb565) (o := .cells #[.int .u8 ((rd_T40 l0_1 x41_2).f0), .int .u8 ((rd_T40 l0_1 x41_2).f1), .int .u8 ((rd_T40 l0_1 x41_2).f2), .int .i16 ((rd_T40 l0_1 x41_2).f3), .int .i32 ((rd_T40 l0_1 x41_2).f4)] 40 (0, 0)) bk_now hg (Kd.R_away HO_558001.out (fun _ hk => hk))); have n6_ := Aside0.mk (blk_grown (g := gb573) (o := .cells #[.int .i64 t567, .int .i64 t568, .int .i64 t569, .bool t570, .bool t571] 45 (0, 0)) bk_now hg (Kd.R_ne HO_558001.out BK573.out (by decide))); have n7_ := Aside0.mk ((by rw [hw]; exact below_set (below_set (below_set (below_set (below_set (HB.out) GB64.out) GB64.out) GB64.out) GB64.out) GB64.out : Below w.heap.size w w107)); clear HO_4; clear HO_558000; clear HO_558001; clear BK548; clear BK557; clear BK565; clear BK573; clear HB; have HO_4 := n0_; have HO_558000 := n1_; have HO_558001 := n2_; have BK548 := n3_; have BK557 := n4_; have BK565 := n5_; have BK573 := n6_; have HB := n7_; clear n0_ n1_ n2_ n3_ n4_ n5_ n6_ n7_; clear hg hw hp_; have hnb108 := NB573_548.out; have hnc108 := NB548_573.out; have hcz109 := blk_all5 BK573.out))
                       go_roundg kj34
                       case measure => have := HJ3.out; have := HK2.out; have := HJ34.out; omega
                       case rel => exact ⟨(rdOf false t558 t574), (x41_2), (wrap64 (x41_2 + 1)), (y576), (.slice (some ⟨go64, 0, none⟩) x558001_2.length co64), eq_now, eq_now, eq_now, H', ⟨by have := HJ3.out; have := HK2.out; have := HJ34.out; omega⟩, ⟨by (with_reducible repeat (first | apply Kd.R_alloc | apply Kd.R_drewN | apply Kd.R_drew)); exact HO_4.out⟩, ⟨by (with_reducible repeat (first | apply Kd.R_alloc | apply Kd.R_drewN | apply Kd.R_drew)); exact HO_558000.out⟩, ⟨by (with_reducible repeat (first | apply Kd.R_alloc | apply Kd.R_drewN | apply Kd.R_drew)); exact Kd.R_mono HO_558001.out (fun _ hk => trivial)⟩, ⟨bk_now⟩, ⟨bk_now⟩, ⟨b_now⟩⟩
                     ·rw [if_neg c63] at H
                      exact absurd H (by simp)
                    ·rw [if_neg c62] at H
                     exact absurd H (by simp)
                   ·rw [if_neg c61] at H
                    exact absurd H (by simp)
                  ·rw [if_neg c60] at H
                   have c60b0 : decide (t574 < (t558.length : Int)) = false := decide_eq_false c60
                   clear c60
                   by_cases c110 : 0 ≤ x41_2
                   ·rw [if_pos c110] at H
                    have c110b0 : decide (0 ≤ x41_2) = true := decide_eq_true c110
                    clear c110
                    by_cases c111 : x41_2 < (x558001_2.length : Int)
                    ·rw [if_pos c111] at H
                     have c111b0 : decide (x41_2 < (x558001_2.length : Int)) = true := decide_eq_true c111
                     clear c111
                     obtain ⟨y583, hy583⟩ : ∃ y_ : List (S40), y_ = (x558001_2.set (x41_2 : Int).toNat (⟨7, 0, 0, 0, 0⟩ : S40)) := ⟨_, rfl⟩
                     replace H : (if t567 = 7 then (if x41_2 = (wrap64 ((l0_1.length : Int) - 1)) then ((stockadelaw04_exit.f).bind fun bt584 => (stockadelaw04_ShapeJumps.l0 kj34 t558 false x41_2 l0_1 (l0_1.length : Int) (wrap64 (x41_2 + 1)) l0_0 l0_1 t551 (y583.set (x41_2 : Int).toNat (⟨bt584.1, bt584.2.1, bt584.2.2.1, bt584.2.2.2.1, bt584.2.2.2.2⟩ : S40)))) else (stockadelaw04_ShapeJumps.l0 kj34 t558 false x41_2 l0_1 (l0_1.length : Int) (wrap64 (x41_2 + 1)) l0_0 l0_1 t551 y583)) else (stockadelaw04_ShapeJumps.l0 kj34 t558 false x41_2 l0_1 (l0_1.length : Int) (wrap64 (x41_2 + 1)) l0_0 l0_1 t551 y583)) = some r := by first | (rw [hy583]; with_reducible exact H) | (have H2_ := (Option.bind_some _ _).symm.trans H; rw [hy583]; with_reducible exact H2_) | (have H2_ := (Option.bind_some _ _).symm.trans H; with_reducible exact H2_) | with_reducible exact H | (rw [hy583]; exact H) | exact H
                     have Ny583 := Aside0.mk hy583
                     clear hy583
                     by_cases c113 : t567 = 7
                     ·rw [if_pos c113] at H
                      have c113b0 : (t567 == 7) = true := beq_iff_eq.mpr c113
                      have c113b1 : (t567 != 7) = false := bne_eq_false_iff_eq.mpr c113
                      clear c113
                      by_cases c114 : x41_2 = (wrap64 ((l0_1.length : Int) - 1))
                      ·rw [if_pos c114] at H
                       have c114b0 : (x41_2 == (wrap64 ((l0_1.length : Int) - 1))) = true := beq_iff_eq.mpr c114
                       have c114b1 : (x41_2 != (wrap64 ((l0_1.length : Int) - 1))) = false := bne_eq_false_iff_eq.mpr c114
                       clear c114
                       replace H := Option.bind_eq_some_iff.mp H; obtain ⟨⟨t584, t585, t586, t587, t588⟩, A1150, H⟩ := H; try dsimp only at H
                       have A115 := Aside0.mk A1150
                       clear A1150
                       obtain ⟨y589, hy589⟩ : ∃ y_ : List (S40), y_ = (y583.set (x41_2 : Int).toNat (⟨t584, t585, t586, t587, t588⟩ : S40)) := ⟨_, rfl⟩
                       replace H : (stockadelaw04_ShapeJumps.l0 kj34 t558 false x41_2 l0_1 (l0_1.length : Int) (wrap64 (x41_2 + 1)) l0_0 l0_1 t551 y589) = some r := by first | (rw [hy589]; with_reducible exact H) | (have H2_ := (Option.bind_some _ _).symm.trans H; rw [hy589]; with_reducible exact H2_) | (have H2_ := (Option.bind_some _ _).symm.trans H; with_reducible exact H2_) | with_reducible exact H | (rw [hy589]; exact H) | exact H
                       have Ny589 := Aside0.mk hy589
                       clear hy589
                       have H' := Aside0.mk H
                       clear H
                       have hnb117 := NB565_548.out
                       have hnc117 := NB548_565.out
                       have hnb118 := NB565_557.out
                       have hnc118 := NB557_565.out
                       have hnb119 := NB565_573.out
                       have hnc119 := NB573_565.out
                       have hcz120 := blk_all5 BK565.out
                       try go_wp2_with (first | ((with_reducible refine gate_callee (f := 19) rfl ?_); refine sh_call (some 71) Tryd.func19 #[.int .i64 x41_2, .agg #[.int .u8 ((rd_T40 l0_1 x41_2).f0), .int .u8 ((rd_T40 l0_1 x41_2).f1), .int .u8 ((rd_T40 l0_1 x41_2).f2), .int .i16 ((rd_T40 l0_1 x41_2).f3), .int .i32 ((rd_T40 l0_1 x41_2).f4)]] ?_; (with_reducible refine (shape_Target.calls x41_2 ((rd_T40 l0_1 x41_2).f0) ((rd_T40 l0_1 x41_2).f1) ((rd_T40 l0_1 x41_2).f2) ((rd_T40 l0_1 x41_2).f3) ((rd_T40 l0_1 x41_2).f4) t574 _ A57.out).mono ?_); rintro e w121 ⟨rfl, hb⟩; refine ⟨_, rfl, ?_⟩; replace HO_4 := Aside0.mk (Kd.R_below (by (with_reducible repeat (first | apply Kd.R_alloc | apply Kd.R_drewN | apply Kd.R_drew)); exact HO_4.out) hb); replace HO_558000 := Aside0.mk (Kd.R_below (by (with_reducible repeat (first | apply Kd.R_alloc | apply Kd.R_drewN | apply Kd.R_drew)); exact HO_558000.out) hb); replace HO_558001 := Aside0.mk (Kd.R_below (by (with_reducible repeat (first | apply Kd.R_alloc | apply Kd.R_drewN | apply Kd.R_drew)); exact HO_558001.out) hb); replace BK548 := sh_k BK548 hb; replace BK557 := sh_k BK557 hb; replace BK565 := sh_k BK565 hb; replace BK573 := sh_k BK573 hb; replace HB := sh_b (w := w) hb; (try clear hb); (try clear hb2); (try clear hk); (try clear hi); have hnb122 := NB557_548.out; have hnc122 := NB548_557.out; have hnb123 := NB557_573.out; have hnc123 := NB573_557.out; have hcz124 := blk_all2 BK557.out; have p112 : 0 ≤ (x41_2 : Int) := of_decide_eq_true (by first | (with_reducible assumption) | assumption); have q112 : (x41_2 : Int) < ((x558001_2.length : Int) : Int) := of_decide_eq_true (by first | (with_reducible assumption) | assumption); obtain ⟨go112, co112, eo112, gb112, gl112, cl112, HG112⟩ := Kd.R_form HO_558001.out (by omega); (first | cases eo112 | (injection eo112 with ea_ en_ ec_; (first | subst ea_ | (injection ea_ with ea_; subst ea_)); subst ec_; clear en_)); have GB112 := Aside0.mk gb112; have GG112 := Aside0.mk HG112; clear gb112 gl112 HG112; obtain ⟨ce112, hcl112, hM112, hcc112, hfr112⟩ := Kd.R_elem HO_558001.out z40 (x41_2 : Int) p112 q112; obtain rfl := k40_openM hM112; have hx112_0 : w121.cell? ⟨go112, (x41_2 : Int).toNat * 5, none⟩ = some (.int .u8 ((rd_T40 x558001_2 x41_2).f0)) := hcc112 0 _ rfl; have hx112_1 : w121.cell? ⟨go112, (x41_2 : Int).toNat * 5 + 1, none⟩ = some (.int .u8 ((rd_T40 x558001_2 x41_2).f1)) := hcc112 1 _ rfl; have hx112_2 : w121.cell? ⟨go112, (x41_2 : Int).toNat * 5 + 2, none⟩ = some (.int .u8 ((rd_T40 x558001_2 x41_2).f2)) := hcc112 2 _ rfl; have hx112_3 : w121.cell? ⟨go112, (x41_2 : Int).toNat * 5 + 3, none⟩ = some (.int .i16 ((rd_T40 x558001_2 x41_2).f3)) := hcc112 3 _ rfl; have hx112_4 : w121.cell? ⟨go112, (x41_2 : Int).toNat * 5 + 4, none⟩ = some (.int .i32 ((rd_T40 x558001_2 x41_2).f4)) := hcc112 4 _ rfl; have hf112_0 : w121.frozen? ⟨go112, (x41_2 : Int).toNat * 5, none⟩ = false := hfr112 0; have hf112_1 : w121.frozen? ⟨go112, (x41_2 : Int).toNat * 5 + 1, none⟩ = false := hfr112 1; have hf112_2 : w121.frozen? ⟨go112, (x41_2 : Int).toNat * 5 + 2, none⟩ = false := hfr112 2; have hf112_3 : w121.frozen? ⟨go112, (x41_2 : Int).toNat * 5 + 3, none⟩ = false := hfr112 3; have hf112_4 : w121.frozen? ⟨go112, (x41_2 : Int).toNat * 5 + 4, none⟩ = false := hfr112 4; clear hcl112 hcc112 hfr112 hM112; replace p112 := eq_true p112; replace q112 := eq_true q112; have HX125 := Aside0.mk (show Kd.R k40 40 w121 w.heap.size (fun k_ => k_ ≠ gb565) (.slice (some ⟨go112, 0, none⟩) x558001_2.length co112) x558001_2 from (by (with_reducible repeat (first | apply Kd.R_alloc | apply Kd.R_drewN | apply Kd.R_drew)); exact HO_558001.out)); obtain ⟨ce125, hcl125, hM125, hcc125, hfr125⟩ := Kd.R_elem HX125.out z40 (x41_2 : Int) (of_decide_eq_true (by first | (with_reducible assumption) | assumption)) (by have h_ : (x41_2 : Int) < ((x558001_2.length : Int) : Int) := of_decide_eq_true (by first | (with_reducible assumption) | assumption); first | exact h_ | (have e_ := (Kd.R_reads' HO_558001.out).1; omega) | simpa using h_); obtain rfl := k40_openM hM125; have HP125 := Kd.R_seg HX125.out (x41_2 : Int) (of_decide_eq_true (by first | (with_reducible assumption) | assumption)) (by have h_ : (x41_2 : Int) < ((x558001_2.length : Int) : Int) := of_decide_eq_true (by first | (with_reducible assumption) | assumption); first | exact h_ | (have e_ := (Kd.R_reads' HO_558001.out).1; omega) | simpa using h_) (seg := [.int .u8 7, .int .u8 0, .int .u8 0, .int .i16 0, .int .i32 0]) (j := 0) hcl125 hcc125 (show 5 ≤ 5 from by decide) (x' := (⟨7, 0, 0, 0, 0⟩ : S40)) (k40_mkM _ _ _ (⟨7, 0, 0, 0, 0⟩ : S40) ) (fun _ hk => hk); have hx125_0 := hcc125 0 _ rfl; (try simp only [show (k40).sz = 5 from rfl, Nat.mul_one, Nat.add_zero] at hx125_0); have hf125_0 := hfr125 0; (try simp only [show (k40).sz = 5 from rfl, Nat.mul_one, Nat.add_zero] at hf125_0); have hx125_1 := hcc125 1 _ rfl; (try simp only [show (k40).sz = 5 from rfl, Nat.mul_one, Nat.add_zero] at hx125_1); have hf125_1 := hfr125 1; (try simp only [show (k40).sz = 5 from rfl, Nat.mul_one, Nat.add_zero] at hf125_1); have hx125_2 := hcc125 2 _ rfl; (try simp only [show (k40).sz = 5 from rfl, Nat.mul_one, Nat.add_zero] at hx125_2); have hf125_2 := hfr125 2; (try simp only [show (k40).sz = 5 from rfl, Nat.mul_one, Nat.add_zero] at hf125_2); have hx125_3 := hcc125 3 _ rfl; (try simp only [show (k40).sz = 5 from rfl, Nat.mul_one, Nat.add_zero] at hx125_3); have hf125_3 := hfr125 3; (try simp only [show (k40).sz = 5 from rfl, Nat.mul_one, Nat.add_zero] at hf125_3); have hx125_4 := hcc125 4 _ rfl; (try simp only [show (k40).sz = 5 from rfl, Nat.mul_one, Nat.add_zero] at hx125_4); have hf125_4 := hfr125 4; (try simp only [show (k40).sz = 5 from rfl, Nat.mul_one, Nat.add_zero] at hf125_4); clear hcl125 hcc125 hfr125 hM125) | ((with_reducible refine gate_store (t := 40) (p := 93) rfl ?_); refine store_event (t := 40) (p := 93) (v := ?vo_w126) (w1 := (((((w121.setCell ⟨go112, (x41_2 : Int).toNat * 5, none⟩ (.int .u8 7)).setCell ⟨go112, (x41_2 : Int).toNat * 5 + 1, none⟩ (.int .u8 0)).setCell ⟨go112, (x41_2 : Int).toNat * 5 + 2, none⟩ (.int .u8 0)).setCell ⟨go112, (x41_2 : Int).toNat * 5 + 3, none⟩ (.int .i16 0)).setCell ⟨go112, (x41_2 : Int).toNat * 5 + 4, none⟩ (.int .i32 0))) ?hg ?ho ?hn ?hr ?_; (case ho => rfl); (case hg => rfl); (case hn => rfl); (case hr => first | (go_simp; done) | (go_simp; rfl)); intro w126 hw; have hg : w121.grownBy w126 (some go112) := (by rw [hw]; exact HP125.2); have hp_ : Kd.R k40 40 w126 w.heap.size (fun k_ => k_ ≠ gb565) (.slice (some ⟨go112, 0, none⟩) x558001_2.length co112) y583 := (by rw [hw, Ny583.out]; exact HP125.1); clear HP125; have n0_ := Aside0.mk (Kd.R_over' (v := (.slice (some ⟨go112, 0, none⟩) x558001_2.length co112)) (by (with_reducible repeat (first | apply Kd.R_alloc | apply Kd.R_drewN | apply Kd.R_drew)); exact HO_4.out) (Kd.R_typed HO_558001.out) (by decide) hg); have n1_ := Aside0.mk (Kd.R_over' (v := (.slice (some ⟨go112, 0, none⟩) x558001_2.length co112)) (by (with_reducible repeat (first | apply Kd.R_alloc | apply Kd.R_drewN | apply Kd.R_drew)); exact HO_558000.out) (Kd.R_typed HO_558001.out) (by decide) hg); have n2_ := Aside0.mk (hp_); have n3_ := Aside0.mk (blk_grown (g := gb548) (o := .cells #[.slice A0_0 l0_0.length c0_0, .slice (some ad564) l0_1.length c0_1] 25 (0, 0)) bk_now hg (Kd.R_ne HO_558001.out BK548.out (by decide))); have n4_ := Aside0.mk (blk_grown (g := gb557) (o := .cells #[.slice Ao20 t551.length co20, .slice (some ⟨go112, 0, none⟩) x558001_2.length co112] 25 (0, 0)) bk_now hg (Kd.R_ne HO_558001.out BK557.out (by decide))); have n5_ := Aside0.mk (blk_grown (g := gb565) (o := .cells #[.int .u8 ((rd_T40 l0_1 x41_2).f0), .int .u8 ((rd_T40 l0_1 x41_2).f1), .int .u8 ((rd_T40 l0_1 x41_2).f2), .int .i16 ((rd_T40 l0_1 x41_2).f3), .int .i32 ((rd_T40 l0_1 x41_2).f4)] 40 (0, 0)) bk_now hg (Kd.R_away HO_558001.out (fun _ hk => hk))); have n6_ := Aside0.mk (blk_grown (g := gb573) (o := .cells #[.int .i64 t567, .int .i64 t568, .int .i64 t569, .bool t570, .bool t571] 45 (0, 0)) bk_now hg (Kd.R_ne HO_558001.out BK573.out (by decide))); have n7_ := Aside0.mk ((by rw [hw]; exact below_set (below_set (below_set (below_set (below_set (HB.out) GB112.out) GB112.out) GB112.out) GB112.out) GB112.out : Below w.heap.size w w126)); clear HO_4; clear HO_558000; clear HO_558001; clear BK548; clear BK557; clear BK565; clear BK573; clear HB; have HO_4 := n0_; have HO_558000 := n1_; have HO_558001 := n2_; have BK548 := n3_; have BK557 := n4_; have BK565 := n5_; have BK573 := n6_; have HB := n7_; clear n0_ n1_ n2_ n3_ n4_ n5_ n6_ n7_; clear hg hw hp_; have hnb127 := NB573_548.out; have hnc127 := NB548_573.out; have hcz128 := blk_all5 BK573.out; have hcz129 := blk_all2 BK548.out))
                       have n0_ := Aside0.mk (Kd.R_drew HO_4.out)
                       have n1_ := Aside0.mk (Kd.R_drew HO_558000.out)
                       have n2_ := Aside0.mk (Kd.R_drew HO_558001.out)
                       have n3_ := Aside0.mk (blk_drew BK548.out)
                       have n4_ := Aside0.mk (blk_drew BK557.out)
                       have n5_ := Aside0.mk (blk_drew BK565.out)
                       have n6_ := Aside0.mk (blk_drew BK573.out)
                       have n7_ := Aside0.mk (below_drew1 HB.out)
                       clear HO_4
                       clear HO_558000
                       clear HO_558001
                       clear BK548
                       clear BK557
                       clear BK565
                       clear BK573
                       clear HB
                       have HO_4 := n0_
                       have HO_558000 := n1_
                       have HO_558001 := n2_
                       have BK548 := n3_
                       have BK557 := n4_
                       have BK565 := n5_
                       have BK573 := n6_
                       have HB := n7_
                       clear n0_ n1_ n2_ n3_ n4_ n5_ n6_ n7_
                       refine start_ (n := 6) (S := fun w' => w'.cell? ⟨gb557, 0, none⟩ = some (.slice Ao20 t551.length co20) ∧ w'.cell? ⟨gb557, 1, none⟩ = some (.slice (some ⟨go112, 0, none⟩) x558001_2.length co112)) (ds := [5]) #[false, false, false, false, false, false] (by kernel_rfl) rfl rfl ⟨(blk_cell BK557.out 0).trans rfl, (blk_cell BK557.out 1).trans rfl⟩ (fun hHeld => ?_)
                       generalize w126.drew = w130 at HO_4 HO_558000 HO_558001 BK548 BK557 BK565 BK573 HB hHeld ⊢
                       refine pure_ (i := 0) (N := some 105) (v := ?_) (a' := ?_) #[true, false, false, false, false, false] rfl rfl (by kernel_rfl) (fun _ _ _ h => h) (Or.inl ⟨by rfl, ?_⟩) ?_ ?_
                       rotate_left
                       ·intro w'
                        go_simp
                        with_reducible rfl
                       rotate_left
                       ·simp only [Act.put, List.setIfInBounds_toArray, List.set_cons_zero, List.set_cons_succ, i64_w, i32_w]
                        rfl
                       refine pure_ (i := 2) (N := some 107) (v := ?_) (a' := ?_) #[true, false, true, false, false, false] rfl rfl (by kernel_rfl) (fun _ _ _ h => h) (Or.inl ⟨by rfl, ?_⟩) ?_ ?_
                       rotate_left
                       ·intro w'
                        go_simp
                        with_reducible rfl
                       rotate_left
                       ·simp only [Act.put, List.setIfInBounds_toArray, List.set_cons_zero, List.set_cons_succ, i64_w, i32_w]
                        rfl
                       refine take_ (i := 1) (N := some 106) (v := ?_) (a' := ?_) #[true, true, true, false, false, false] rfl rfl (by kernel_rfl) (fun _ _ _ h => h) (Or.inl ⟨by rfl, ?_⟩) hHeld ?_ ?_
                       rotate_left
                       ·rintro w' ⟨s0, s1⟩
                        go_simp
                        with_reducible rfl
                       rotate_left
                       ·simp only [Act.put, List.setIfInBounds_toArray, List.set_cons_zero, List.set_cons_succ, i64_w, i32_w]
                        rfl
                       refine one_ (i := 3) (N := some 108) #[true, true, true, true, false, false] rfl rfl (by kernel_rfl) (by decide) (fun K hK => ?_)
                       refine goes_ Tryd.func24 (by kernel_rfl) rfl #[] (by rfl) rfl rfl (by (try simp only [List.map_toArray, List.map_cons, List.map_nil]); first | done | rfl | (simp only [List.length_drop, List.length_take]; rfl)) ?_
                       with_reducible refine (stockadelaw04_exit.calls  t584 t585 t586 t587 t588 _ A115.out).mono ?_
                       rintro e w131 ⟨rfl, hb⟩
                       refine ⟨_, rfl, ?_⟩
                       have n0_ := Aside0.mk (Kd.R_below (by (with_reducible repeat (first | apply Kd.R_alloc | apply Kd.R_drewN | apply Kd.R_drew)); exact HO_4.out) hb)
                       have n1_ := Aside0.mk (Kd.R_below (by (with_reducible repeat (first | apply Kd.R_alloc | apply Kd.R_drewN | apply Kd.R_drew)); exact HO_558000.out) hb)
                       have n2_ := Aside0.mk (Kd.R_below (by (with_reducible repeat (first | apply Kd.R_alloc | apply Kd.R_drewN | apply Kd.R_drew)); exact HO_558001.out) hb)
                       have n3_ := Aside0.mk (blk_below (g := gb548) (o := .cells #[.slice A0_0 l0_0.length c0_0, .slice (some ad564) l0_1.length c0_1] 25 (0, 0)) bk_now hb)
                       have n4_ := Aside0.mk (blk_below (g := gb557) (o := .cells #[.slice Ao20 t551.length co20, .slice (some ⟨go112, 0, none⟩) x558001_2.length co112] 25 (0, 0)) bk_now hb)
                       have n5_ := Aside0.mk (blk_below (g := gb565) (o := .cells #[.int .u8 ((rd_T40 l0_1 x41_2).f0), .int .u8 ((rd_T40 l0_1 x41_2).f1), .int .u8 ((rd_T40 l0_1 x41_2).f2), .int .i16 ((rd_T40 l0_1 x41_2).f3), .int .i32 ((rd_T40 l0_1 x41_2).f4)] 40 (0, 0)) bk_now hb)
                       have n6_ := Aside0.mk (blk_below (g := gb573) (o := .cells #[.int .i64 t567, .int .i64 t568, .int .i64 t569, .bool t570, .bool t571] 45 (0, 0)) bk_now hb)
                       have n7_ := Aside0.mk (below_step b_now hb)
                       clear HO_4
                       clear HO_558000
                       clear HO_558001
                       clear BK548
                       clear BK557
                       clear BK565
                       clear BK573
                       clear HB
                       have HO_4 := n0_
                       have HO_558000 := n1_
                       have HO_558001 := n2_
                       have BK548 := n3_
                       have BK557 := n4_
                       have BK565 := n5_
                       have BK573 := n6_
                       have HB := n7_
                       clear n0_ n1_ n2_ n3_ n4_ n5_ n6_ n7_
                       (try clear hb)
                       (try clear hb2)
                       (try clear hk)
                       (try clear hi)
                       have p116 : 0 ≤ (x41_2 : Int) := of_decide_eq_true (by first | (with_reducible assumption) | assumption)
                       have q116 : (x41_2 : Int) < ((x558001_2.length : Int) : Int) := of_decide_eq_true (by first | (with_reducible assumption) | assumption)
                       obtain ⟨gh112, ch112, eh112, _, _, cm112, HG112⟩ := Kd.R_form HO_558001.out (by have := (Kd.R_reads' HO_558001.out).1; omega); (obtain rfl : go112 = gh112 := by (injection eh112 with ea_; injection ea_ with ea_; injection ea_)); have GH112 := Aside0.mk HG112; clear HG112; clear eh112
                       obtain ⟨ce116, hcl116, hM116, hcc116, hfr116⟩ := Kd.R_elem HO_558001.out z40 (x41_2 : Int) p116 q116
                       obtain rfl := k40_openM hM116
                       have hx116_0 : World.cell? _ ⟨go112, (x41_2 : Int).toNat * 5, none⟩ = some (.int .u8 ((rd_T40 y583 x41_2).f0)) := hcc116 0 _ rfl
                       have hx116_1 : World.cell? _ ⟨go112, (x41_2 : Int).toNat * 5 + 1, none⟩ = some (.int .u8 ((rd_T40 y583 x41_2).f1)) := hcc116 1 _ rfl
                       have hx116_2 : World.cell? _ ⟨go112, (x41_2 : Int).toNat * 5 + 2, none⟩ = some (.int .u8 ((rd_T40 y583 x41_2).f2)) := hcc116 2 _ rfl
                       have hx116_3 : World.cell? _ ⟨go112, (x41_2 : Int).toNat * 5 + 3, none⟩ = some (.int .i16 ((rd_T40 y583 x41_2).f3)) := hcc116 3 _ rfl
                       have hx116_4 : World.cell? _ ⟨go112, (x41_2 : Int).toNat * 5 + 4, none⟩ = some (.int .i32 ((rd_T40 y583 x41_2).f4)) := hcc116 4 _ rfl
                       have hf116_0 : World.frozen? _ ⟨go112, (x41_2 : Int).toNat * 5, none⟩ = false := hfr116 0
                       have hf116_1 : World.frozen? _ ⟨go112, (x41_2 : Int).toNat * 5 + 1, none⟩ = false := hfr116 1
                       have hf116_2 : World.frozen? _ ⟨go112, (x41_2 : Int).toNat * 5 + 2, none⟩ = false := hfr116 2
                       have hf116_3 : World.frozen? _ ⟨go112, (x41_2 : Int).toNat * 5 + 3, none⟩ = false := hfr116 3
                       have hf116_4 : World.frozen? _ ⟨go112, (x41_2 : Int).toNat * 5 + 4, none⟩ = false := hfr116 4
                       clear hcl116 hcc116 hfr116 hM116
                       replace p116 := eq_true p116
                       replace q116 := eq_true q116
                       obtain ⟨ce132, hcl132, hM132, hcc132, hfr132⟩ := Kd.R_elem HO_558001.out z40 (x41_2 : Int) (of_decide_eq_true (by first | (with_reducible assumption) | assumption)) (by have h_ : (x41_2 : Int) < ((x558001_2.length : Int) : Int) := of_decide_eq_true (by first | (with_reducible assumption) | assumption); first | exact h_ | (have e_ := (Kd.R_reads' HO_558001.out).1; omega) | simpa using h_)
                       obtain rfl := k40_openM hM132
                       have HP132 := (Kd.R_seg HO_558001.out (x41_2 : Int) (of_decide_eq_true (by first | (with_reducible assumption) | assumption)) (by have h_ : (x41_2 : Int) < ((x558001_2.length : Int) : Int) := of_decide_eq_true (by first | (with_reducible assumption) | assumption); first | exact h_ | (have e_ := (Kd.R_reads' HO_558001.out).1; omega) | simpa using h_) (seg := [.int .u8 t584, .int .u8 t585, .int .u8 t586, .int .i16 t587, .int .i32 t588]) (j := 0) hcl132 hcc132 (show 5 ≤ 5 from by decide) (x' := (⟨t584, t585, t586, t587, t588⟩ : S40)) (k40_mkM _ _ _ (⟨t584, t585, t586, t587, t588⟩ : S40) ) (fun _ hk => hk)).1
                       rw [← Ny589.out] at HP132
                       have HQ132 := Aside0.mk HP132
                       clear hcl132 hcc132 hfr132 hM132 HP132
                       refine hK.out _ _ ⟨(blk_cell BK557.out 0).trans rfl, (blk_cell BK557.out 1).trans rfl⟩ (fun hHeld => ?_)
                       clear hK K
                       refine norm_ (a' := ?_) ?_ ?_
                       rotate_left
                       ·show Act.put _ (some 108) _ = _
                        simp only [Act.put, List.setIfInBounds_toArray, List.set_cons_zero, List.set_cons_succ, i64_w, i32_w]
                        rfl
                       refine pure_ (i := 4) (N := some 109) (v := ?_) (a' := ?_) #[true, true, true, true, true, false] rfl rfl (by kernel_rfl) (fun _ _ _ h => h) (Or.inl ⟨by rfl, ?_⟩) ?_ ?_
                       rotate_left
                       ·intro w'
                        go_simp
                        with_reducible rfl
                       rotate_left
                       ·simp only [Act.put, List.setIfInBounds_toArray, List.set_cons_zero, List.set_cons_succ, i64_w, i32_w]
                        rfl
                       refine last_ (i := 5) (N := none) #[true, true, true, true, true, true] rfl rfl (by kernel_rfl) (by decide) (fun K hK => ?_)
                       refine skip_ (w1 := ?_) (by rfl) rfl ?_ ?_
                       rotate_left
                       ·go_simp
                        rfl
                       refine hK.out _ _ ?_
                       clear hK K
                       refine done_ (by kernel_rfl) ?_
                       try go_wp2
                       go_roundg kj34
                       case measure => have := HJ3.out; have := HK2.out; have := HJ34.out; omega
                       case rel => exact ⟨(false), (x41_2), (wrap64 (x41_2 + 1)), (y589), (.slice (some ⟨go112, 0, none⟩) x558001_2.length co112), eq_now, eq_now, eq_now, H', ⟨by have := HJ3.out; have := HK2.out; have := HJ34.out; omega⟩, ⟨by (with_reducible repeat (first | apply Kd.R_alloc | apply Kd.R_drewN | apply Kd.R_drew)); exact Kd.R_mono (Kd.R_far (p := ⟨go112, (x41_2 : Int).toNat * 5 + 4, none⟩) (Kd.R_far (p := ⟨go112, (x41_2 : Int).toNat * 5 + 3, none⟩) (Kd.R_far (p := ⟨go112, (x41_2 : Int).toNat * 5 + 2, none⟩) (Kd.R_far (p := ⟨go112, (x41_2 : Int).toNat * 5 + 1, none⟩) (Kd.R_far (p := ⟨go112, (x41_2 : Int).toNat * 5, none⟩) (Kd.R_types HO_4.out GH112.out (by decide)) (fun _ hk => hk.2) (.int .u8 t584)) (fun _ hk => hk.2) (.int .u8 t585)) (fun _ hk => hk.2) (.int .u8 t586)) (fun _ hk => hk.2) (.int .i16 t587)) (fun _ hk => hk.2) (.int .i32 t588)) (fun _ hk => trivial)⟩, ⟨by (with_reducible repeat (first | apply Kd.R_alloc | apply Kd.R_drewN | apply Kd.R_drew)); exact Kd.R_mono (Kd.R_far (p := ⟨go112, (x41_2 : Int).toNat * 5 + 4, none⟩) (Kd.R_far (p := ⟨go112, (x41_2 : Int).toNat * 5 + 3, none⟩) (Kd.R_far (p := ⟨go112, (x41_2 : Int).toNat * 5 + 2, none⟩) (Kd.R_far (p := ⟨go112, (x41_2 : Int).toNat * 5 + 1, none⟩) (Kd.R_far (p := ⟨go112, (x41_2 : Int).toNat * 5, none⟩) (Kd.R_types HO_558000.out GH112.out (by decide)) (fun _ hk => hk.2) (.int .u8 t584)) (fun _ hk => hk.2) (.int .u8 t585)) (fun _ hk => hk.2) (.int .u8 t586)) (fun _ hk => hk.2) (.int .i16 t587)) (fun _ hk => hk.2) (.int .i32 t588)) (fun _ hk => trivial)⟩, ⟨by (with_reducible repeat (first | apply Kd.R_alloc | apply Kd.R_drewN | apply Kd.R_drew)); exact Kd.R_mono HQ132.out (fun _ hk => trivial)⟩, ⟨by (with_reducible repeat (first | refine blk_drewN ?_ _ | refine blk_drew ?_ | refine blk_alloc ?_ _)); refine blk_far ?_ (by have h_ := Kd.R_ne HO_558001.out BK548.out (by decide); intro e_; exact h_ (by rw [e_]; rfl)) _; (with_reducible repeat (first | refine blk_drewN ?_ _ | refine blk_drew ?_ | refine blk_alloc ?_ _)); refine blk_far ?_ (by have h_ := Kd.R_ne HO_558001.out BK548.out (by decide); intro e_; exact h_ (by rw [e_]; rfl)) _; (with_reducible repeat (first | refine blk_drewN ?_ _ | refine blk_drew ?_ | refine blk_alloc ?_ _)); refine blk_far ?_ (by have h_ := Kd.R_ne HO_558001.out BK548.out (by decide); intro e_; exact h_ (by rw [e_]; rfl)) _; (with_reducible repeat (first | refine blk_drewN ?_ _ | refine blk_drew ?_ | refine blk_alloc ?_ _)); refine blk_far ?_ (by have h_ := Kd.R_ne HO_558001.out BK548.out (by decide); intro e_; exact h_ (by rw [e_]; rfl)) _; (with_reducible repeat (first | refine blk_drewN ?_ _ | refine blk_drew ?_ | refine blk_alloc ?_ _)); refine blk_far ?_ (by have h_ := Kd.R_ne HO_558001.out BK548.out (by decide); intro e_; exact h_ (by rw [e_]; rfl)) _; (with_reducible repeat (first | refine blk_drewN ?_ _ | refine blk_drew ?_ | refine blk_alloc ?_ _)); exact BK548.out⟩, ⟨by (with_reducible repeat (first | refine blk_drewN ?_ _ | refine blk_drew ?_ | refine blk_alloc ?_ _)); refine blk_far ?_ (by have h_ := Kd.R_ne HO_558001.out BK557.out (by decide); intro e_; exact h_ (by rw [e_]; rfl)) _; (with_reducible repeat (first | refine blk_drewN ?_ _ | refine blk_drew ?_ | refine blk_alloc ?_ _)); refine blk_far ?_ (by have h_ := Kd.R_ne HO_558001.out BK557.out (by decide); intro e_; exact h_ (by rw [e_]; rfl)) _; (with_reducible repeat (first | refine blk_drewN ?_ _ | refine blk_drew ?_ | refine blk_alloc ?_ _)); refine blk_far ?_ (by have h_ := Kd.R_ne HO_558001.out BK557.out (by decide); intro e_; exact h_ (by rw [e_]; rfl)) _; (with_reducible repeat (first | refine blk_drewN ?_ _ | refine blk_drew ?_ | refine blk_alloc ?_ _)); refine blk_far ?_ (by have h_ := Kd.R_ne HO_558001.out BK557.out (by decide); intro e_; exact h_ (by rw [e_]; rfl)) _; (with_reducible repeat (first | refine blk_drewN ?_ _ | refine blk_drew ?_ | refine blk_alloc ?_ _)); refine blk_far ?_ (by have h_ := Kd.R_ne HO_558001.out BK557.out (by decide); intro e_; exact h_ (by rw [e_]; rfl)) _; (with_reducible repeat (first | refine blk_drewN ?_ _ | refine blk_drew ?_ | refine blk_alloc ?_ _)); exact BK557.out⟩, ⟨by repeat (first | (with_reducible first | exact HB.out | apply below_alloc | apply pw_below_drewN | apply below_drew1 | refine below_set ?_ GB112.out | refine below_set ?_ GB112.out | refine below_set ?_ GB112.out | refine below_set ?_ GB112.out | refine below_set ?_ GB112.out | refine below_set ?_ GE548.out | refine below_set ?_ GE557.out | refine below_set ?_ GE565.out | refine below_set ?_ GE573.out) | exact HB.out)⟩⟩
                      ·rw [if_neg c114] at H
                       have c114b0 : (x41_2 == (wrap64 ((l0_1.length : Int) - 1))) = false := beq_eq_false_iff_ne.mpr c114
                       have c114b1 : (x41_2 != (wrap64 ((l0_1.length : Int) - 1))) = true := bne_iff_ne.mpr c114
                       have H' := Aside0.mk H
                       clear H
                       have hnb133 := NB565_548.out
                       have hnc133 := NB548_565.out
                       have hnb134 := NB565_557.out
                       have hnc134 := NB557_565.out
                       have hnb135 := NB565_573.out
                       have hnc135 := NB573_565.out
                       have hcz136 := blk_all5 BK565.out
                       go_wp2_with (first | ((with_reducible refine gate_callee (f := 19) rfl ?_); refine sh_call (some 71) Tryd.func19 #[.int .i64 x41_2, .agg #[.int .u8 ((rd_T40 l0_1 x41_2).f0), .int .u8 ((rd_T40 l0_1 x41_2).f1), .int .u8 ((rd_T40 l0_1 x41_2).f2), .int .i16 ((rd_T40 l0_1 x41_2).f3), .int .i32 ((rd_T40 l0_1 x41_2).f4)]] ?_; (with_reducible refine (shape_Target.calls x41_2 ((rd_T40 l0_1 x41_2).f0) ((rd_T40 l0_1 x41_2).f1) ((rd_T40 l0_1 x41_2).f2) ((rd_T40 l0_1 x41_2).f3) ((rd_T40 l0_1 x41_2).f4) t574 _ A57.out).mono ?_); rintro e w137 ⟨rfl, hb⟩; refine ⟨_, rfl, ?_⟩; replace HO_4 := Aside0.mk (Kd.R_below (by (with_reducible repeat (first | apply Kd.R_alloc | apply Kd.R_drewN | apply Kd.R_drew)); exact HO_4.out) hb); replace HO_558000 := Aside0.mk (Kd.R_below (by (with_reducible repeat (first | apply Kd.R_alloc | apply Kd.R_drewN | apply Kd.R_drew)); exact HO_558000.out) hb); replace HO_558001 := Aside0.mk (Kd.R_below (by (with_reducible repeat (first | apply Kd.R_alloc | apply Kd.R_drewN | apply Kd.R_drew)); exact HO_558001.out) hb); replace BK548 := sh_k BK548 hb; replace BK557 := sh_k BK557 hb; replace BK565 := sh_k BK565 hb; replace BK573 := sh_k BK573 hb; replace HB := sh_b (w := w) hb; (try clear hb); (try clear hb2); (try clear hk); (try clear hi); have hnb138 := NB557_548.out; have hnc138 := NB548_557.out; have hnb139 := NB557_573.out; have hnc139 := NB573_557.out; have hcz140 := blk_all2 BK557.out; have p112 : 0 ≤ (x41_2 : Int) := of_decide_eq_true (by first | (with_reducible assumption) | assumption); have q112 : (x41_2 : Int) < ((x558001_2.length : Int) : Int) := of_decide_eq_true (by first | (with_reducible assumption) | assumption); obtain ⟨go112, co112, eo112, gb112, gl112, cl112, HG112⟩ := Kd.R_form HO_558001.out (by omega); (first | cases eo112 | (injection eo112 with ea_ en_ ec_; (first | subst ea_ | (injection ea_ with ea_; subst ea_)); subst ec_; clear en_)); have GB112 := Aside0.mk gb112; have GG112 := Aside0.mk HG112; clear gb112 gl112 HG112; obtain ⟨ce112, hcl112, hM112, hcc112, hfr112⟩ := Kd.R_elem HO_558001.out z40 (x41_2 : Int) p112 q112; obtain rfl := k40_openM hM112; have hx112_0 : w137.cell? ⟨go112, (x41_2 : Int).toNat * 5, none⟩ = some (.int .u8 ((rd_T40 x558001_2 x41_2).f0)) := hcc112 0 _ rfl; have hx112_1 : w137.cell? ⟨go112, (x41_2 : Int).toNat * 5 + 1, none⟩ = some (.int .u8 ((rd_T40 x558001_2 x41_2).f1)) := hcc112 1 _ rfl; have hx112_2 : w137.cell? ⟨go112, (x41_2 : Int).toNat * 5 + 2, none⟩ = some (.int .u8 ((rd_T40 x558001_2 x41_2).f2)) := hcc112 2 _ rfl; have hx112_3 : w137.cell? ⟨go112, (x41_2 : Int).toNat * 5 + 3, none⟩ = some (.int .i16 ((rd_T40 x558001_2 x41_2).f3)) := hcc112 3 _ rfl; have hx112_4 : w137.cell? ⟨go112, (x41_2 : Int).toNat * 5 + 4, none⟩ = some (.int .i32 ((rd_T40 x558001_2 x41_2).f4)) := hcc112 4 _ rfl; have hf112_0 : w137.frozen? ⟨go112, (x41_2 : Int).toNat * 5, none⟩ = false := hfr112 0; have hf112_1 : w137.frozen? ⟨go112, (x41_2 : Int).toNat * 5 + 1, none⟩ = false := hfr112 1; have hf112_2 : w137.frozen? ⟨go112, (x41_2 : Int).toNat * 5 + 2, none⟩ = false := hfr112 2; have hf112_3 : w137.frozen? ⟨go112, (x41_2 : Int).toNat * 5 + 3, none⟩ = false := hfr112 3; have hf112_4 : w137.frozen? ⟨go112, (x41_2 : Int).toNat * 5 + 4, none⟩ = false := hfr112 4; clear hcl112 hcc112 hfr112 hM112; replace p112 := eq_true p112; replace q112 := eq_true q112; have HX141 := Aside0.mk (show Kd.R k40 40 w137 w.heap.size (fun k_ => k_ ≠ gb565) (.slice (some ⟨go112, 0, none⟩) x558001_2.length co112) x558001_2 from (by (with_reducible repeat (first | apply Kd.R_alloc | apply Kd.R_drewN | apply Kd.R_drew)); exact HO_558001.out)); obtain ⟨ce141, hcl141, hM141, hcc141, hfr141⟩ := Kd.R_elem HX141.out z40 (x41_2 : Int) (of_decide_eq_true (by first | (with_reducible assumption) | assumption)) (by have h_ : (x41_2 : Int) < ((x558001_2.length : Int) : Int) := of_decide_eq_true (by first | (with_reducible assumption) | assumption); first | exact h_ | (have e_ := (Kd.R_reads' HO_558001.out).1; omega) | simpa using h_); obtain rfl := k40_openM hM141; have HP141 := Kd.R_seg HX141.out (x41_2 : Int) (of_decide_eq_true (by first | (with_reducible assumption) | assumption)) (by have h_ : (x41_2 : Int) < ((x558001_2.length : Int) : Int) := of_decide_eq_true (by first | (with_reducible assumption) | assumption); first | exact h_ | (have e_ := (Kd.R_reads' HO_558001.out).1; omega) | simpa using h_) (seg := [.int .u8 7, .int .u8 0, .int .u8 0, .int .i16 0, .int .i32 0]) (j := 0) hcl141 hcc141 (show 5 ≤ 5 from by decide) (x' := (⟨7, 0, 0, 0, 0⟩ : S40)) (k40_mkM _ _ _ (⟨7, 0, 0, 0, 0⟩ : S40) ) (fun _ hk => hk); have hx141_0 := hcc141 0 _ rfl; (try simp only [show (k40).sz = 5 from rfl, Nat.mul_one, Nat.add_zero] at hx141_0); have hf141_0 := hfr141 0; (try simp only [show (k40).sz = 5 from rfl, Nat.mul_one, Nat.add_zero] at hf141_0); have hx141_1 := hcc141 1 _ rfl; (try simp only [show (k40).sz = 5 from rfl, Nat.mul_one, Nat.add_zero] at hx141_1); have hf141_1 := hfr141 1; (try simp only [show (k40).sz = 5 from rfl, Nat.mul_one, Nat.add_zero] at hf141_1); have hx141_2 := hcc141 2 _ rfl; (try simp only [show (k40).sz = 5 from rfl, Nat.mul_one, Nat.add_zero] at hx141_2); have hf141_2 := hfr141 2; (try simp only [show (k40).sz = 5 from rfl, Nat.mul_one, Nat.add_zero] at hf141_2); have hx141_3 := hcc141 3 _ rfl; (try simp only [show (k40).sz = 5 from rfl, Nat.mul_one, Nat.add_zero] at hx141_3); have hf141_3 := hfr141 3; (try simp only [show (k40).sz = 5 from rfl, Nat.mul_one, Nat.add_zero] at hf141_3); have hx141_4 := hcc141 4 _ rfl; (try simp only [show (k40).sz = 5 from rfl, Nat.mul_one, Nat.add_zero] at hx141_4); have hf141_4 := hfr141 4; (try simp only [show (k40).sz = 5 from rfl, Nat.mul_one, Nat.add_zero] at hf141_4); clear hcl141 hcc141 hfr141 hM141) | ((with_reducible refine gate_store (t := 40) (p := 93) rfl ?_); refine store_event (t := 40) (p := 93) (v := ?vo_w142) (w1 := (((((w137.setCell ⟨go112, (x41_2 : Int).toNat * 5, none⟩ (.int .u8 7)).setCell ⟨go112, (x41_2 : Int).toNat * 5 + 1, none⟩ (.int .u8 0)).setCell ⟨go112, (x41_2 : Int).toNat * 5 + 2, none⟩ (.int .u8 0)).setCell ⟨go112, (x41_2 : Int).toNat * 5 + 3, none⟩ (.int .i16 0)).setCell ⟨go112, (x41_2 : Int).toNat * 5 + 4, none⟩ (.int .i32 0))) ?hg ?ho ?hn ?hr ?_; (case ho => rfl); (case hg => rfl); (case hn => rfl); (case hr => first | (go_simp; done) | (go_simp; rfl)); intro w142 hw; have hg : w137.grownBy w142 (some go112) := (by rw [hw]; exact HP141.2); have hp_ : Kd.R k40 40 w142 w.heap.size (fun k_ => k_ ≠ gb565) (.slice (some ⟨go112, 0, none⟩) x558001_2.length co112) y583 := (by rw [hw, Ny583.out]; exact HP141.1); clear HP141; have n0_ := Aside0.mk (Kd.R_over' (v := (.slice (some ⟨go112, 0, none⟩) x558001_2.length co112)) (by (with_reducible repeat (first | apply Kd.R_alloc | apply Kd.R_drewN | apply Kd.R_drew)); exact HO_4.out) (Kd.R_typed HO_558001.out) (by decide) hg); have n1_ := Aside0.mk (Kd.R_over' (v := (.slice (some ⟨go112, 0, none⟩) x558001_2.length co112)) (by (with_reducible repeat (first | apply Kd.R_alloc | apply Kd.R_drewN | apply Kd.R_drew)); exact HO_558000.out) (Kd.R_typed HO_558001.out) (by decide) hg); have n2_ := Aside0.mk (hp_); have n3_ := Aside0.mk (blk_grown (g := gb548) (o := .cells #[.slice A0_0 l0_0.length c0_0, .slice (some ad564) l0_1.length c0_1] 25 (0, 0)) bk_now hg (Kd.R_ne HO_558001.out BK548.out (by decide))); have n4_ := Aside0.mk (blk_grown (g := gb557) (o := .cells #[.slice Ao20 t551.length co20, .slice (some ⟨go112, 0, none⟩) x558001_2.length co112] 25 (0, 0)) bk_now hg (Kd.R_ne HO_558001.out BK557.out (by decide))); have n5_ := Aside0.mk (blk_grown (g := gb565) (o := .cells #[.int .u8 ((rd_T40 l0_1 x41_2).f0), .int .u8 ((rd_T40 l0_1 x41_2).f1), .int .u8 ((rd_T40 l0_1 x41_2).f2), .int .i16 ((rd_T40 l0_1 x41_2).f3), .int .i32 ((rd_T40 l0_1 x41_2).f4)] 40 (0, 0)) bk_now hg (Kd.R_away HO_558001.out (fun _ hk => hk))); have n6_ := Aside0.mk (blk_grown (g := gb573) (o := .cells #[.int .i64 t567, .int .i64 t568, .int .i64 t569, .bool t570, .bool t571] 45 (0, 0)) bk_now hg (Kd.R_ne HO_558001.out BK573.out (by decide))); have n7_ := Aside0.mk ((by rw [hw]; exact below_set (below_set (below_set (below_set (below_set (HB.out) GB112.out) GB112.out) GB112.out) GB112.out) GB112.out : Below w.heap.size w w142)); clear HO_4; clear HO_558000; clear HO_558001; clear BK548; clear BK557; clear BK565; clear BK573; clear HB; have HO_4 := n0_; have HO_558000 := n1_; have HO_558001 := n2_; have BK548 := n3_; have BK557 := n4_; have BK565 := n5_; have BK573 := n6_; have HB := n7_; clear n0_ n1_ n2_ n3_ n4_ n5_ n6_ n7_; clear hg hw hp_; have hnb143 := NB573_548.out; have hnc143 := NB548_573.out; have hcz144 := blk_all5 BK573.out; have hcz145 := blk_all2 BK548.out))
                       go_roundg kj34
                       case measure => have := HJ3.out; have := HK2.out; have := HJ34.out; omega
                       case rel => exact ⟨(false), (x41_2), (wrap64 (x41_2 + 1)), (y583), (.slice (some ⟨go112, 0, none⟩) x558001_2.length co112), eq_now, eq_now, eq_now, H', ⟨by have := HJ3.out; have := HK2.out; have := HJ34.out; omega⟩, ⟨by (with_reducible repeat (first | apply Kd.R_alloc | apply Kd.R_drewN | apply Kd.R_drew)); exact HO_4.out⟩, ⟨by (with_reducible repeat (first | apply Kd.R_alloc | apply Kd.R_drewN | apply Kd.R_drew)); exact HO_558000.out⟩, ⟨by (with_reducible repeat (first | apply Kd.R_alloc | apply Kd.R_drewN | apply Kd.R_drew)); exact Kd.R_mono HO_558001.out (fun _ hk => trivial)⟩, ⟨bk_now⟩, ⟨bk_now⟩, ⟨b_now⟩⟩
                     ·rw [if_neg c113] at H
                      have c113b0 : (t567 == 7) = false := beq_eq_false_iff_ne.mpr c113
                      have c113b1 : (t567 != 7) = true := bne_iff_ne.mpr c113
                      have H' := Aside0.mk H
                      clear H
                      have hnb146 := NB565_548.out
                      have hnc146 := NB548_565.out
                      have hnb147 := NB565_557.out
                      have hnc147 := NB557_565.out
                      have hnb148 := NB565_573.out
                      have hnc148 := NB573_565.out
                      have hcz149 := blk_all5 BK565.out
                      go_wp2_with (first | ((with_reducible refine gate_callee (f := 19) rfl ?_); refine sh_call (some 71) Tryd.func19 #[.int .i64 x41_2, .agg #[.int .u8 ((rd_T40 l0_1 x41_2).f0), .int .u8 ((rd_T40 l0_1 x41_2).f1), .int .u8 ((rd_T40 l0_1 x41_2).f2), .int .i16 ((rd_T40 l0_1 x41_2).f3), .int .i32 ((rd_T40 l0_1 x41_2).f4)]] ?_; (with_reducible refine (shape_Target.calls x41_2 ((rd_T40 l0_1 x41_2).f0) ((rd_T40 l0_1 x41_2).f1) ((rd_T40 l0_1 x41_2).f2) ((rd_T40 l0_1 x41_2).f3) ((rd_T40 l0_1 x41_2).f4) t574 _ A57.out).mono ?_); rintro e w150 ⟨rfl, hb⟩; refine ⟨_, rfl, ?_⟩; replace HO_4 := Aside0.mk (Kd.R_below (by (with_reducible repeat (first | apply Kd.R_alloc | apply Kd.R_drewN | apply Kd.R_drew)); exact HO_4.out) hb); replace HO_558000 := Aside0.mk (Kd.R_below (by (with_reducible repeat (first | apply Kd.R_alloc | apply Kd.R_drewN | apply Kd.R_drew)); exact HO_558000.out) hb); replace HO_558001 := Aside0.mk (Kd.R_below (by (with_reducible repeat (first | apply Kd.R_alloc | apply Kd.R_drewN | apply Kd.R_drew)); exact HO_558001.out) hb); replace BK548 := sh_k BK548 hb; replace BK557 := sh_k BK557 hb; replace BK565 := sh_k BK565 hb; replace BK573 := sh_k BK573 hb; replace HB := sh_b (w := w) hb; (try clear hb); (try clear hb2); (try clear hk); (try clear hi); have hnb151 := NB557_548.out; have hnc151 := NB548_557.out; have hnb152 := NB557_573.out; have hnc152 := NB573_557.out; have hcz153 := blk_all2 BK557.out; have p112 : 0 ≤ (x41_2 : Int) := of_decide_eq_true (by first | (with_reducible assumption) | assumption); have q112 : (x41_2 : Int) < ((x558001_2.length : Int) : Int) := of_decide_eq_true (by first | (with_reducible assumption) | assumption); obtain ⟨go112, co112, eo112, gb112, gl112, cl112, HG112⟩ := Kd.R_form HO_558001.out (by omega); (first | cases eo112 | (injection eo112 with ea_ en_ ec_; (first | subst ea_ | (injection ea_ with ea_; subst ea_)); subst ec_; clear en_)); have GB112 := Aside0.mk gb112; have GG112 := Aside0.mk HG112; clear gb112 gl112 HG112; obtain ⟨ce112, hcl112, hM112, hcc112, hfr112⟩ := Kd.R_elem HO_558001.out z40 (x41_2 : Int) p112 q112; obtain rfl := k40_openM hM112; have hx112_0 : w150.cell? ⟨go112, (x41_2 : Int).toNat * 5, none⟩ = some (.int .u8 ((rd_T40 x558001_2 x41_2).f0)) := hcc112 0 _ rfl; have hx112_1 : w150.cell? ⟨go112, (x41_2 : Int).toNat * 5 + 1, none⟩ = some (.int .u8 ((rd_T40 x558001_2 x41_2).f1)) := hcc112 1 _ rfl; have hx112_2 : w150.cell? ⟨go112, (x41_2 : Int).toNat * 5 + 2, none⟩ = some (.int .u8 ((rd_T40 x558001_2 x41_2).f2)) := hcc112 2 _ rfl; have hx112_3 : w150.cell? ⟨go112, (x41_2 : Int).toNat * 5 + 3, none⟩ = some (.int .i16 ((rd_T40 x558001_2 x41_2).f3)) := hcc112 3 _ rfl; have hx112_4 : w150.cell? ⟨go112, (x41_2 : Int).toNat * 5 + 4, none⟩ = some (.int .i32 ((rd_T40 x558001_2 x41_2).f4)) := hcc112 4 _ rfl; have hf112_0 : w150.frozen? ⟨go112, (x41_2 : Int).toNat * 5, none⟩ = false := hfr112 0; have hf112_1 : w150.frozen? ⟨go112, (x41_2 : Int).toNat * 5 + 1, none⟩ = false := hfr112 1; have hf112_2 : w150.frozen? ⟨go112, (x41_2 : Int).toNat * 5 + 2, none⟩ = false := hfr112 2; have hf112_3 : w150.frozen? ⟨go112, (x41_2 : Int).toNat * 5 + 3, none⟩ = false := hfr112 3; have hf112_4 : w150.frozen? ⟨go112, (x41_2 : Int).toNat * 5 + 4, none⟩ = false := hfr112 4; clear hcl112 hcc112 hfr112 hM112; replace p112 := eq_true p112; replace q112 := eq_true q112; have HX154 := Aside0.mk (show Kd.R k40 40 w150 w.heap.size (fun k_ => k_ ≠ gb565) (.slice (some ⟨go112, 0, none⟩) x558001_2.length co112) x558001_2 from (by (with_reducible repeat (first | apply Kd.R_alloc | apply Kd.R_drewN | apply Kd.R_drew)); exact HO_558001.out)); obtain ⟨ce154, hcl154, hM154, hcc154, hfr154⟩ := Kd.R_elem HX154.out z40 (x41_2 : Int) (of_decide_eq_true (by first | (with_reducible assumption) | assumption)) (by have h_ : (x41_2 : Int) < ((x558001_2.length : Int) : Int) := of_decide_eq_true (by first | (with_reducible assumption) | assumption); first | exact h_ | (have e_ := (Kd.R_reads' HO_558001.out).1; omega) | simpa using h_); obtain rfl := k40_openM hM154; have HP154 := Kd.R_seg HX154.out (x41_2 : Int) (of_decide_eq_true (by first | (with_reducible assumption) | assumption)) (by have h_ : (x41_2 : Int) < ((x558001_2.length : Int) : Int) := of_decide_eq_true (by first | (with_reducible assumption) | assumption); first | exact h_ | (have e_ := (Kd.R_reads' HO_558001.out).1; omega) | simpa using h_) (seg := [.int .u8 7, .int .u8 0, .int .u8 0, .int .i16 0, .int .i32 0]) (j := 0) hcl154 hcc154 (show 5 ≤ 5 from by decide) (x' := (⟨7, 0, 0, 0, 0⟩ : S40)) (k40_mkM _ _ _ (⟨7, 0, 0, 0, 0⟩ : S40) ) (fun _ hk => hk); have hx154_0 := hcc154 0 _ rfl; (try simp only [show (k40).sz = 5 from rfl, Nat.mul_one, Nat.add_zero] at hx154_0); have hf154_0 := hfr154 0; (try simp only [show (k40).sz = 5 from rfl, Nat.mul_one, Nat.add_zero] at hf154_0); have hx154_1 := hcc154 1 _ rfl; (try simp only [show (k40).sz = 5 from rfl, Nat.mul_one, Nat.add_zero] at hx154_1); have hf154_1 := hfr154 1; (try simp only [show (k40).sz = 5 from rfl, Nat.mul_one, Nat.add_zero] at hf154_1); have hx154_2 := hcc154 2 _ rfl; (try simp only [show (k40).sz = 5 from rfl, Nat.mul_one, Nat.add_zero] at hx154_2); have hf154_2 := hfr154 2; (try simp only [show (k40).sz = 5 from rfl, Nat.mul_one, Nat.add_zero] at hf154_2); have hx154_3 := hcc154 3 _ rfl; (try simp only [show (k40).sz = 5 from rfl, Nat.mul_one, Nat.add_zero] at hx154_3); have hf154_3 := hfr154 3; (try simp only [show (k40).sz = 5 from rfl, Nat.mul_one, Nat.add_zero] at hf154_3); have hx154_4 := hcc154 4 _ rfl; (try simp only [show (k40).sz = 5 from rfl, Nat.mul_one, Nat.add_zero] at hx154_4); have hf154_4 := hfr154 4; (try simp only [show (k40).sz = 5 from rfl, Nat.mul_one, Nat.add_zero] at hf154_4); clear hcl154 hcc154 hfr154 hM154) | ((with_reducible refine gate_store (t := 40) (p := 93) rfl ?_); refine store_event (t := 40) (p := 93) (v := ?vo_w155) (w1 := (((((w150.setCell ⟨go112, (x41_2 : Int).toNat * 5, none⟩ (.int .u8 7)).setCell ⟨go112, (x41_2 : Int).toNat * 5 + 1, none⟩ (.int .u8 0)).setCell ⟨go112, (x41_2 : Int).toNat * 5 + 2, none⟩ (.int .u8 0)).setCell ⟨go112, (x41_2 : Int).toNat * 5 + 3, none⟩ (.int .i16 0)).setCell ⟨go112, (x41_2 : Int).toNat * 5 + 4, none⟩ (.int .i32 0))) ?hg ?ho ?hn ?hr ?_; (case ho => rfl); (case hg => rfl); (case hn => rfl); (case hr => first | (go_simp; done) | (go_simp; rfl)); intro w155 hw; have hg : w150.grownBy w155 (some go112) := (by rw [hw]; exact HP154.2); have hp_ : Kd.R k40 40 w155 w.heap.size (fun k_ => k_ ≠ gb565) (.slice (some ⟨go112, 0, none⟩) x558001_2.length co112) y583 := (by rw [hw, Ny583.out]; exact HP154.1); clear HP154; have n0_ := Aside0.mk (Kd.R_over' (v := (.slice (some ⟨go112, 0, none⟩) x558001_2.length co112)) (by (with_reducible repeat (first | apply Kd.R_alloc | apply Kd.R_drewN | apply Kd.R_drew)); exact HO_4.out) (Kd.R_typed HO_558001.out) (by decide) hg); have n1_ := Aside0.mk (Kd.R_over' (v := (.slice (some ⟨go112, 0, none⟩) x558001_2.length co112)) (by (with_reducible repeat (first | apply Kd.R_alloc | apply Kd.R_drewN | apply Kd.R_drew)); exact HO_558000.out) (Kd.R_typed HO_558001.out) (by decide) hg); have n2_ := Aside0.mk (hp_); have n3_ := Aside0.mk (blk_grown (g := gb548) (o := .cells #[.slice A0_0 l0_0.length c0_0, .slice (some ad564) l0_1.length c0_1] 25 (0, 0)) bk_now hg (Kd.R_ne HO_558001.out BK548.out (by decide))); have n4_ := Aside0.mk (blk_grown (g := gb557) (o := .cells #[.slice Ao20 t551.length co20, .slice (some ⟨go112, 0, none⟩) x558001_2.length co112] 25 (0, 0)) bk_now hg (Kd.R_ne HO_558001.out BK557.out (by decide))); have n5_ := Aside0.mk (blk_grown (g := gb565) (o := .cells #[.int .u8 ((rd_T40 l0_1 x41_2).f0), .int .u8 ((rd_T40 l0_1 x41_2).f1), .int .u8 ((rd_T40 l0_1 x41_2).f2), .int .i16 ((rd_T40 l0_1 x41_2).f3), .int .i32 ((rd_T40 l0_1 x41_2).f4)] 40 (0, 0)) bk_now hg (Kd.R_away HO_558001.out (fun _ hk => hk))); have n6_ := Aside0.mk (blk_grown (g := gb573) (o := .cells #[.int .i64 t567, .int .i64 t568, .int .i64 t569, .bool t570, .bool t571] 45 (0, 0)) bk_now hg (Kd.R_ne HO_558001.out BK573.out (by decide))); have n7_ := Aside0.mk ((by rw [hw]; exact below_set (below_set (below_set (below_set (below_set (HB.out) GB112.out) GB112.out) GB112.out) GB112.out) GB112.out : Below w.heap.size w w155)); clear HO_4; clear HO_558000; clear HO_558001; clear BK548; clear BK557; clear BK565; clear BK573; clear HB; have HO_4 := n0_; have HO_558000 := n1_; have HO_558001 := n2_; have BK548 := n3_; have BK557 := n4_; have BK565 := n5_; have BK573 := n6_; have HB := n7_; clear n0_ n1_ n2_ n3_ n4_ n5_ n6_ n7_; clear hg hw hp_; have hnb156 := NB573_548.out; have hnc156 := NB548_573.out; have hcz157 := blk_all5 BK573.out))
                      go_roundg kj34
                      case measure => have := HJ3.out; have := HK2.out; have := HJ34.out; omega
                      case rel => exact ⟨(false), (x41_2), (wrap64 (x41_2 + 1)), (y583), (.slice (some ⟨go112, 0, none⟩) x558001_2.length co112), eq_now, eq_now, eq_now, H', ⟨by have := HJ3.out; have := HK2.out; have := HJ34.out; omega⟩, ⟨by (with_reducible repeat (first | apply Kd.R_alloc | apply Kd.R_drewN | apply Kd.R_drew)); exact HO_4.out⟩, ⟨by (with_reducible repeat (first | apply Kd.R_alloc | apply Kd.R_drewN | apply Kd.R_drew)); exact HO_558000.out⟩, ⟨by (with_reducible repeat (first | apply Kd.R_alloc | apply Kd.R_drewN | apply Kd.R_drew)); exact Kd.R_mono HO_558001.out (fun _ hk => trivial)⟩, ⟨bk_now⟩, ⟨bk_now⟩, ⟨b_now⟩⟩
                    ·rw [if_neg c111] at H
                     exact absurd H (by simp)
                   ·rw [if_neg c110] at H
                    exact absurd H (by simp)
                 ·rw [if_neg c59] at H
                  have c59b0 : decide (0 ≤ t574) = false := decide_eq_false c59
                  clear c59
                  by_cases c158 : 0 ≤ x41_2
                  ·rw [if_pos c158] at H
                   have c158b0 : decide (0 ≤ x41_2) = true := decide_eq_true c158
                   clear c158
                   by_cases c159 : x41_2 < (x558001_2.length : Int)
                   ·rw [if_pos c159] at H
                    have c159b0 : decide (x41_2 < (x558001_2.length : Int)) = true := decide_eq_true c159
                    clear c159
                    obtain ⟨y590, hy590⟩ : ∃ y_ : List (S40), y_ = (x558001_2.set (x41_2 : Int).toNat (⟨7, 0, 0, 0, 0⟩ : S40)) := ⟨_, rfl⟩
                    replace H : (if t567 = 7 then (if x41_2 = (wrap64 ((l0_1.length : Int) - 1)) then ((stockadelaw04_exit.f).bind fun bt591 => (stockadelaw04_ShapeJumps.l0 kj34 t558 false x41_2 l0_1 (l0_1.length : Int) (wrap64 (x41_2 + 1)) l0_0 l0_1 t551 (y590.set (x41_2 : Int).toNat (⟨bt591.1, bt591.2.1, bt591.2.2.1, bt591.2.2.2.1, bt591.2.2.2.2⟩ : S40)))) else (stockadelaw04_ShapeJumps.l0 kj34 t558 false x41_2 l0_1 (l0_1.length : Int) (wrap64 (x41_2 + 1)) l0_0 l0_1 t551 y590)) else (stockadelaw04_ShapeJumps.l0 kj34 t558 false x41_2 l0_1 (l0_1.length : Int) (wrap64 (x41_2 + 1)) l0_0 l0_1 t551 y590)) = some r := by first | (rw [hy590]; with_reducible exact H) | (have H2_ := (Option.bind_some _ _).symm.trans H; rw [hy590]; with_reducible exact H2_) | (have H2_ := (Option.bind_some _ _).symm.trans H; with_reducible exact H2_) | with_reducible exact H | (rw [hy590]; exact H) | exact H
                    have Ny590 := Aside0.mk hy590
                    clear hy590
                    by_cases c161 : t567 = 7
                    ·rw [if_pos c161] at H
                     have c161b0 : (t567 == 7) = true := beq_iff_eq.mpr c161
                     have c161b1 : (t567 != 7) = false := bne_eq_false_iff_eq.mpr c161
                     clear c161
                     by_cases c162 : x41_2 = (wrap64 ((l0_1.length : Int) - 1))
                     ·rw [if_pos c162] at H
                      have c162b0 : (x41_2 == (wrap64 ((l0_1.length : Int) - 1))) = true := beq_iff_eq.mpr c162
                      have c162b1 : (x41_2 != (wrap64 ((l0_1.length : Int) - 1))) = false := bne_eq_false_iff_eq.mpr c162
                      clear c162
                      replace H := Option.bind_eq_some_iff.mp H; obtain ⟨⟨t591, t592, t593, t594, t595⟩, A1630, H⟩ := H; try dsimp only at H
                      have A163 := Aside0.mk A1630
                      clear A1630
                      obtain ⟨y596, hy596⟩ : ∃ y_ : List (S40), y_ = (y590.set (x41_2 : Int).toNat (⟨t591, t592, t593, t594, t595⟩ : S40)) := ⟨_, rfl⟩
                      replace H : (stockadelaw04_ShapeJumps.l0 kj34 t558 false x41_2 l0_1 (l0_1.length : Int) (wrap64 (x41_2 + 1)) l0_0 l0_1 t551 y596) = some r := by first | (rw [hy596]; with_reducible exact H) | (have H2_ := (Option.bind_some _ _).symm.trans H; rw [hy596]; with_reducible exact H2_) | (have H2_ := (Option.bind_some _ _).symm.trans H; with_reducible exact H2_) | with_reducible exact H | (rw [hy596]; exact H) | exact H
                      have Ny596 := Aside0.mk hy596
                      clear hy596
                      have H' := Aside0.mk H
                      clear H
                      have hnb165 := NB565_548.out
                      have hnc165 := NB548_565.out
                      have hnb166 := NB565_557.out
                      have hnc166 := NB557_565.out
                      have hnb167 := NB565_573.out
                      have hnc167 := NB573_565.out
                      have hcz168 := blk_all5 BK565.out
                      try go_wp2_with (first | ((with_reducible refine gate_callee (f := 19) rfl ?_); refine sh_call (some 71) Tryd.func19 #[.int .i64 x41_2, .agg #[.int .u8 ((rd_T40 l0_1 x41_2).f0), .int .u8 ((rd_T40 l0_1 x41_2).f1), .int .u8 ((rd_T40 l0_1 x41_2).f2), .int .i16 ((rd_T40 l0_1 x41_2).f3), .int .i32 ((rd_T40 l0_1 x41_2).f4)]] ?_; (with_reducible refine (shape_Target.calls x41_2 ((rd_T40 l0_1 x41_2).f0) ((rd_T40 l0_1 x41_2).f1) ((rd_T40 l0_1 x41_2).f2) ((rd_T40 l0_1 x41_2).f3) ((rd_T40 l0_1 x41_2).f4) t574 _ A57.out).mono ?_); rintro e w169 ⟨rfl, hb⟩; refine ⟨_, rfl, ?_⟩; replace HO_4 := Aside0.mk (Kd.R_below (by (with_reducible repeat (first | apply Kd.R_alloc | apply Kd.R_drewN | apply Kd.R_drew)); exact HO_4.out) hb); replace HO_558000 := Aside0.mk (Kd.R_below (by (with_reducible repeat (first | apply Kd.R_alloc | apply Kd.R_drewN | apply Kd.R_drew)); exact HO_558000.out) hb); replace HO_558001 := Aside0.mk (Kd.R_below (by (with_reducible repeat (first | apply Kd.R_alloc | apply Kd.R_drewN | apply Kd.R_drew)); exact HO_558001.out) hb); replace BK548 := sh_k BK548 hb; replace BK557 := sh_k BK557 hb; replace BK565 := sh_k BK565 hb; replace BK573 := sh_k BK573 hb; replace HB := sh_b (w := w) hb; (try clear hb); (try clear hb2); (try clear hk); (try clear hi); have hnb170 := NB557_548.out; have hnc170 := NB548_557.out; have hnb171 := NB557_573.out; have hnc171 := NB573_557.out; have hcz172 := blk_all2 BK557.out; have p160 : 0 ≤ (x41_2 : Int) := of_decide_eq_true (by first | (with_reducible assumption) | assumption); have q160 : (x41_2 : Int) < ((x558001_2.length : Int) : Int) := of_decide_eq_true (by first | (with_reducible assumption) | assumption); obtain ⟨go160, co160, eo160, gb160, gl160, cl160, HG160⟩ := Kd.R_form HO_558001.out (by omega); (first | cases eo160 | (injection eo160 with ea_ en_ ec_; (first | subst ea_ | (injection ea_ with ea_; subst ea_)); subst ec_; clear en_)); have GB160 := Aside0.mk gb160; have GG160 := Aside0.mk HG160; clear gb160 gl160 HG160; obtain ⟨ce160, hcl160, hM160, hcc160, hfr160⟩ := Kd.R_elem HO_558001.out z40 (x41_2 : Int) p160 q160; obtain rfl := k40_openM hM160; have hx160_0 : w169.cell? ⟨go160, (x41_2 : Int).toNat * 5, none⟩ = some (.int .u8 ((rd_T40 x558001_2 x41_2).f0)) := hcc160 0 _ rfl; have hx160_1 : w169.cell? ⟨go160, (x41_2 : Int).toNat * 5 + 1, none⟩ = some (.int .u8 ((rd_T40 x558001_2 x41_2).f1)) := hcc160 1 _ rfl; have hx160_2 : w169.cell? ⟨go160, (x41_2 : Int).toNat * 5 + 2, none⟩ = some (.int .u8 ((rd_T40 x558001_2 x41_2).f2)) := hcc160 2 _ rfl; have hx160_3 : w169.cell? ⟨go160, (x41_2 : Int).toNat * 5 + 3, none⟩ = some (.int .i16 ((rd_T40 x558001_2 x41_2).f3)) := hcc160 3 _ rfl; have hx160_4 : w169.cell? ⟨go160, (x41_2 : Int).toNat * 5 + 4, none⟩ = some (.int .i32 ((rd_T40 x558001_2 x41_2).f4)) := hcc160 4 _ rfl; have hf160_0 : w169.frozen? ⟨go160, (x41_2 : Int).toNat * 5, none⟩ = false := hfr160 0; have hf160_1 : w169.frozen? ⟨go160, (x41_2 : Int).toNat * 5 + 1, none⟩ = false := hfr160 1; have hf160_2 : w169.frozen? ⟨go160, (x41_2 : Int).toNat * 5 + 2, none⟩ = false := hfr160 2; have hf160_3 : w169.frozen? ⟨go160, (x41_2 : Int).toNat * 5 + 3, none⟩ = false := hfr160 3; have hf160_4 : w169.frozen? ⟨go160, (x41_2 : Int).toNat * 5 + 4, none⟩ = false := hfr160 4; clear hcl160 hcc160 hfr160 hM160; replace p160 := eq_true p160; replace q160 := eq_true q160; have HX173 := Aside0.mk (show Kd.R k40 40 w169 w.heap.size (fun k_ => k_ ≠ gb565) (.slice (some ⟨go160, 0, none⟩) x558001_2.length co160) x558001_2 from (by (with_reducible repeat (first | apply Kd.R_alloc | apply Kd.R_drewN | apply Kd.R_drew)); exact HO_558001.out)); obtain ⟨ce173, hcl173, hM173, hcc173, hfr173⟩ := Kd.R_elem HX173.out z40 (x41_2 : Int) (of_decide_eq_true (by first | (with_reducible assumption) | assumption)) (by have h_ : (x41_2 : Int) < ((x558001_2.length : Int) : Int) := of_decide_eq_true (by first | (with_reducible assumption) | assumption); first | exact h_ | (have e_ := (Kd.R_reads' HO_558001.out).1; omega) | simpa using h_); obtain rfl := k40_openM hM173; have HP173 := Kd.R_seg HX173.out (x41_2 : Int) (of_decide_eq_true (by first | (with_reducible assumption) | assumption)) (by have h_ : (x41_2 : Int) < ((x558001_2.length : Int) : Int) := of_decide_eq_true (by first | (with_reducible assumption) | assumption); first | exact h_ | (have e_ := (Kd.R_reads' HO_558001.out).1; omega) | simpa using h_) (seg := [.int .u8 7, .int .u8 0, .int .u8 0, .int .i16 0, .int .i32 0]) (j := 0) hcl173 hcc173 (show 5 ≤ 5 from by decide) (x' := (⟨7, 0, 0, 0, 0⟩ : S40)) (k40_mkM _ _ _ (⟨7, 0, 0, 0, 0⟩ : S40) ) (fun _ hk => hk); have hx173_0 := hcc173 0 _ rfl; (try simp only [show (k40).sz = 5 from rfl, Nat.mul_one, Nat.add_zero] at hx173_0); have hf173_0 := hfr173 0; (try simp only [show (k40).sz = 5 from rfl, Nat.mul_one, Nat.add_zero] at hf173_0); have hx173_1 := hcc173 1 _ rfl; (try simp only [show (k40).sz = 5 from rfl, Nat.mul_one, Nat.add_zero] at hx173_1); have hf173_1 := hfr173 1; (try simp only [show (k40).sz = 5 from rfl, Nat.mul_one, Nat.add_zero] at hf173_1); have hx173_2 := hcc173 2 _ rfl; (try simp only [show (k40).sz = 5 from rfl, Nat.mul_one, Nat.add_zero] at hx173_2); have hf173_2 := hfr173 2; (try simp only [show (k40).sz = 5 from rfl, Nat.mul_one, Nat.add_zero] at hf173_2); have hx173_3 := hcc173 3 _ rfl; (try simp only [show (k40).sz = 5 from rfl, Nat.mul_one, Nat.add_zero] at hx173_3); have hf173_3 := hfr173 3; (try simp only [show (k40).sz = 5 from rfl, Nat.mul_one, Nat.add_zero] at hf173_3); have hx173_4 := hcc173 4 _ rfl; (try simp only [show (k40).sz = 5 from rfl, Nat.mul_one, Nat.add_zero] at hx173_4); have hf173_4 := hfr173 4; (try simp only [show (k40).sz = 5 from rfl, Nat.mul_one, Nat.add_zero] at hf173_4); clear hcl173 hcc173 hfr173 hM173) | ((with_reducible refine gate_store (t := 40) (p := 93) rfl ?_); refine store_event (t := 40) (p := 93) (v := ?vo_w174) (w1 := (((((w169.setCell ⟨go160, (x41_2 : Int).toNat * 5, none⟩ (.int .u8 7)).setCell ⟨go160, (x41_2 : Int).toNat * 5 + 1, none⟩ (.int .u8 0)).setCell ⟨go160, (x41_2 : Int).toNat * 5 + 2, none⟩ (.int .u8 0)).setCell ⟨go160, (x41_2 : Int).toNat * 5 + 3, none⟩ (.int .i16 0)).setCell ⟨go160, (x41_2 : Int).toNat * 5 + 4, none⟩ (.int .i32 0))) ?hg ?ho ?hn ?hr ?_; (case ho => rfl); (case hg => rfl); (case hn => rfl); (case hr => first | (go_simp; done) | (go_simp; rfl)); intro w174 hw; have hg : w169.grownBy w174 (some go160) := (by rw [hw]; exact HP173.2); have hp_ : Kd.R k40 40 w174 w.heap.size (fun k_ => k_ ≠ gb565) (.slice (some ⟨go160, 0, none⟩) x558001_2.length co160) y590 := (by rw [hw, Ny590.out]; exact HP173.1); clear HP173; have n0_ := Aside0.mk (Kd.R_over' (v := (.slice (some ⟨go160, 0, none⟩) x558001_2.length co160)) (by (with_reducible repeat (first | apply Kd.R_alloc | apply Kd.R_drewN | apply Kd.R_drew)); exact HO_4.out) (Kd.R_typed HO_558001.out) (by decide) hg); have n1_ := Aside0.mk (Kd.R_over' (v := (.slice (some ⟨go160, 0, none⟩) x558001_2.length co160)) (by (with_reducible repeat (first | apply Kd.R_alloc | apply Kd.R_drewN | apply Kd.R_drew)); exact HO_558000.out) (Kd.R_typed HO_558001.out) (by decide) hg); have n2_ := Aside0.mk (hp_); have n3_ := Aside0.mk (blk_grown (g := gb548) (o := .cells #[.slice A0_0 l0_0.length c0_0, .slice (some ad564) l0_1.length c0_1] 25 (0, 0)) bk_now hg (Kd.R_ne HO_558001.out BK548.out (by decide))); have n4_ := Aside0.mk (blk_grown (g := gb557) (o := .cells #[.slice Ao20 t551.length co20, .slice (some ⟨go160, 0, none⟩) x558001_2.length co160] 25 (0, 0)) bk_now hg (Kd.R_ne HO_558001.out BK557.out (by decide))); have n5_ := Aside0.mk (blk_grown (g := gb565) (o := .cells #[.int .u8 ((rd_T40 l0_1 x41_2).f0), .int .u8 ((rd_T40 l0_1 x41_2).f1), .int .u8 ((rd_T40 l0_1 x41_2).f2), .int .i16 ((rd_T40 l0_1 x41_2).f3), .int .i32 ((rd_T40 l0_1 x41_2).f4)] 40 (0, 0)) bk_now hg (Kd.R_away HO_558001.out (fun _ hk => hk))); have n6_ := Aside0.mk (blk_grown (g := gb573) (o := .cells #[.int .i64 t567, .int .i64 t568, .int .i64 t569, .bool t570, .bool t571] 45 (0, 0)) bk_now hg (Kd.R_ne HO_558001.out BK573.out (by decide))); have n7_ := Aside0.mk ((by rw [hw]; exact below_set (below_set (below_set (below_set (below_set (HB.out) GB160.out) GB160.out) GB160.out) GB160.out) GB160.out : Below w.heap.size w w174)); clear HO_4; clear HO_558000; clear HO_558001; clear BK548; clear BK557; clear BK565; clear BK573; clear HB; have HO_4 := n0_; have HO_558000 := n1_; have HO_558001 := n2_; have BK548 := n3_; have BK557 := n4_; have BK565 := n5_; have BK573 := n6_; have HB := n7_; clear n0_ n1_ n2_ n3_ n4_ n5_ n6_ n7_; clear hg hw hp_; have hnb175 := NB573_548.out; have hnc175 := NB548_573.out; have hcz176 := blk_all5 BK573.out; have hcz177 := blk_all2 BK548.out))
                      have n0_ := Aside0.mk (Kd.R_drew HO_4.out)
                      have n1_ := Aside0.mk (Kd.R_drew HO_558000.out)
                      have n2_ := Aside0.mk (Kd.R_drew HO_558001.out)
                      have n3_ := Aside0.mk (blk_drew BK548.out)
                      have n4_ := Aside0.mk (blk_drew BK557.out)
                      have n5_ := Aside0.mk (blk_drew BK565.out)
                      have n6_ := Aside0.mk (blk_drew BK573.out)
                      have n7_ := Aside0.mk (below_drew1 HB.out)
                      clear HO_4
                      clear HO_558000
                      clear HO_558001
                      clear BK548
                      clear BK557
                      clear BK565
                      clear BK573
                      clear HB
                      have HO_4 := n0_
                      have HO_558000 := n1_
                      have HO_558001 := n2_
                      have BK548 := n3_
                      have BK557 := n4_
                      have BK565 := n5_
                      have BK573 := n6_
                      have HB := n7_
                      clear n0_ n1_ n2_ n3_ n4_ n5_ n6_ n7_
                      refine start_ (n := 6) (S := fun w' => w'.cell? ⟨gb557, 0, none⟩ = some (.slice Ao20 t551.length co20) ∧ w'.cell? ⟨gb557, 1, none⟩ = some (.slice (some ⟨go160, 0, none⟩) x558001_2.length co160)) (ds := [5]) #[false, false, false, false, false, false] (by kernel_rfl) rfl rfl ⟨(blk_cell BK557.out 0).trans rfl, (blk_cell BK557.out 1).trans rfl⟩ (fun hHeld => ?_)
                      generalize w174.drew = w178 at HO_4 HO_558000 HO_558001 BK548 BK557 BK565 BK573 HB hHeld ⊢
                      refine pure_ (i := 0) (N := some 105) (v := ?_) (a' := ?_) #[true, false, false, false, false, false] rfl rfl (by kernel_rfl) (fun _ _ _ h => h) (Or.inl ⟨by rfl, ?_⟩) ?_ ?_
                      rotate_left
                      ·intro w'
                       go_simp
                       with_reducible rfl
                      rotate_left
                      ·simp only [Act.put, List.setIfInBounds_toArray, List.set_cons_zero, List.set_cons_succ, i64_w, i32_w]
                       rfl
                      refine pure_ (i := 2) (N := some 107) (v := ?_) (a' := ?_) #[true, false, true, false, false, false] rfl rfl (by kernel_rfl) (fun _ _ _ h => h) (Or.inl ⟨by rfl, ?_⟩) ?_ ?_
                      rotate_left
                      ·intro w'
                       go_simp
                       with_reducible rfl
                      rotate_left
                      ·simp only [Act.put, List.setIfInBounds_toArray, List.set_cons_zero, List.set_cons_succ, i64_w, i32_w]
                       rfl
                      refine take_ (i := 1) (N := some 106) (v := ?_) (a' := ?_) #[true, true, true, false, false, false] rfl rfl (by kernel_rfl) (fun _ _ _ h => h) (Or.inl ⟨by rfl, ?_⟩) hHeld ?_ ?_
                      rotate_left
                      ·rintro w' ⟨s0, s1⟩
                       go_simp
                       with_reducible rfl
                      rotate_left
                      ·simp only [Act.put, List.setIfInBounds_toArray, List.set_cons_zero, List.set_cons_succ, i64_w, i32_w]
                       rfl
                      refine one_ (i := 3) (N := some 108) #[true, true, true, true, false, false] rfl rfl (by kernel_rfl) (by decide) (fun K hK => ?_)
                      refine goes_ Tryd.func24 (by kernel_rfl) rfl #[] (by rfl) rfl rfl (by (try simp only [List.map_toArray, List.map_cons, List.map_nil]); first | done | rfl | (simp only [List.length_drop, List.length_take]; rfl)) ?_
                      with_reducible refine (stockadelaw04_exit.calls  t591 t592 t593 t594 t595 _ A163.out).mono ?_
                      rintro e w179 ⟨rfl, hb⟩
                      refine ⟨_, rfl, ?_⟩
                      have n0_ := Aside0.mk (Kd.R_below (by (with_reducible repeat (first | apply Kd.R_alloc | apply Kd.R_drewN | apply Kd.R_drew)); exact HO_4.out) hb)
                      have n1_ := Aside0.mk (Kd.R_below (by (with_reducible repeat (first | apply Kd.R_alloc | apply Kd.R_drewN | apply Kd.R_drew)); exact HO_558000.out) hb)
                      have n2_ := Aside0.mk (Kd.R_below (by (with_reducible repeat (first | apply Kd.R_alloc | apply Kd.R_drewN | apply Kd.R_drew)); exact HO_558001.out) hb)
                      have n3_ := Aside0.mk (blk_below (g := gb548) (o := .cells #[.slice A0_0 l0_0.length c0_0, .slice (some ad564) l0_1.length c0_1] 25 (0, 0)) bk_now hb)
                      have n4_ := Aside0.mk (blk_below (g := gb557) (o := .cells #[.slice Ao20 t551.length co20, .slice (some ⟨go160, 0, none⟩) x558001_2.length co160] 25 (0, 0)) bk_now hb)
                      have n5_ := Aside0.mk (blk_below (g := gb565) (o := .cells #[.int .u8 ((rd_T40 l0_1 x41_2).f0), .int .u8 ((rd_T40 l0_1 x41_2).f1), .int .u8 ((rd_T40 l0_1 x41_2).f2), .int .i16 ((rd_T40 l0_1 x41_2).f3), .int .i32 ((rd_T40 l0_1 x41_2).f4)] 40 (0, 0)) bk_now hb)
                      have n6_ := Aside0.mk (blk_below (g := gb573) (o := .cells #[.int .i64 t567, .int .i64 t568, .int .i64 t569, .bool t570, .bool t571] 45 (0, 0)) bk_now hb)
                      have n7_ := Aside0.mk (below_step b_now hb)
                      clear HO_4
                      clear HO_558000
                      clear HO_558001
                      clear BK548
                      clear BK557
                      clear BK565
                      clear BK573
                      clear HB
                      have HO_4 := n0_
                      have HO_558000 := n1_
                      have HO_558001 := n2_
                      have BK548 := n3_
                      have BK557 := n4_
                      have BK565 := n5_
                      have BK573 := n6_
                      have HB := n7_
                      clear n0_ n1_ n2_ n3_ n4_ n5_ n6_ n7_
                      (try clear hb)
                      (try clear hb2)
                      (try clear hk)
                      (try clear hi)
                      have p164 : 0 ≤ (x41_2 : Int) := of_decide_eq_true (by first | (with_reducible assumption) | assumption)
                      have q164 : (x41_2 : Int) < ((x558001_2.length : Int) : Int) := of_decide_eq_true (by first | (with_reducible assumption) | assumption)
                      obtain ⟨gh160, ch160, eh160, _, _, cm160, HG160⟩ := Kd.R_form HO_558001.out (by have := (Kd.R_reads' HO_558001.out).1; omega); (obtain rfl : go160 = gh160 := by (injection eh160 with ea_; injection ea_ with ea_; injection ea_)); have GH160 := Aside0.mk HG160; clear HG160; clear eh160
                      obtain ⟨ce164, hcl164, hM164, hcc164, hfr164⟩ := Kd.R_elem HO_558001.out z40 (x41_2 : Int) p164 q164
                      obtain rfl := k40_openM hM164
                      have hx164_0 : World.cell? _ ⟨go160, (x41_2 : Int).toNat * 5, none⟩ = some (.int .u8 ((rd_T40 y590 x41_2).f0)) := hcc164 0 _ rfl
                      have hx164_1 : World.cell? _ ⟨go160, (x41_2 : Int).toNat * 5 + 1, none⟩ = some (.int .u8 ((rd_T40 y590 x41_2).f1)) := hcc164 1 _ rfl
                      have hx164_2 : World.cell? _ ⟨go160, (x41_2 : Int).toNat * 5 + 2, none⟩ = some (.int .u8 ((rd_T40 y590 x41_2).f2)) := hcc164 2 _ rfl
                      have hx164_3 : World.cell? _ ⟨go160, (x41_2 : Int).toNat * 5 + 3, none⟩ = some (.int .i16 ((rd_T40 y590 x41_2).f3)) := hcc164 3 _ rfl
                      have hx164_4 : World.cell? _ ⟨go160, (x41_2 : Int).toNat * 5 + 4, none⟩ = some (.int .i32 ((rd_T40 y590 x41_2).f4)) := hcc164 4 _ rfl
                      have hf164_0 : World.frozen? _ ⟨go160, (x41_2 : Int).toNat * 5, none⟩ = false := hfr164 0
                      have hf164_1 : World.frozen? _ ⟨go160, (x41_2 : Int).toNat * 5 + 1, none⟩ = false := hfr164 1
                      have hf164_2 : World.frozen? _ ⟨go160, (x41_2 : Int).toNat * 5 + 2, none⟩ = false := hfr164 2
                      have hf164_3 : World.frozen? _ ⟨go160, (x41_2 : Int).toNat * 5 + 3, none⟩ = false := hfr164 3
                      have hf164_4 : World.frozen? _ ⟨go160, (x41_2 : Int).toNat * 5 + 4, none⟩ = false := hfr164 4
                      clear hcl164 hcc164 hfr164 hM164
                      replace p164 := eq_true p164
                      replace q164 := eq_true q164
                      obtain ⟨ce180, hcl180, hM180, hcc180, hfr180⟩ := Kd.R_elem HO_558001.out z40 (x41_2 : Int) (of_decide_eq_true (by first | (with_reducible assumption) | assumption)) (by have h_ : (x41_2 : Int) < ((x558001_2.length : Int) : Int) := of_decide_eq_true (by first | (with_reducible assumption) | assumption); first | exact h_ | (have e_ := (Kd.R_reads' HO_558001.out).1; omega) | simpa using h_)
                      obtain rfl := k40_openM hM180
                      have HP180 := (Kd.R_seg HO_558001.out (x41_2 : Int) (of_decide_eq_true (by first | (with_reducible assumption) | assumption)) (by have h_ : (x41_2 : Int) < ((x558001_2.length : Int) : Int) := of_decide_eq_true (by first | (with_reducible assumption) | assumption); first | exact h_ | (have e_ := (Kd.R_reads' HO_558001.out).1; omega) | simpa using h_) (seg := [.int .u8 t591, .int .u8 t592, .int .u8 t593, .int .i16 t594, .int .i32 t595]) (j := 0) hcl180 hcc180 (show 5 ≤ 5 from by decide) (x' := (⟨t591, t592, t593, t594, t595⟩ : S40)) (k40_mkM _ _ _ (⟨t591, t592, t593, t594, t595⟩ : S40) ) (fun _ hk => hk)).1
                      rw [← Ny596.out] at HP180
                      have HQ180 := Aside0.mk HP180
                      clear hcl180 hcc180 hfr180 hM180 HP180
                      refine hK.out _ _ ⟨(blk_cell BK557.out 0).trans rfl, (blk_cell BK557.out 1).trans rfl⟩ (fun hHeld => ?_)
                      clear hK K
                      refine norm_ (a' := ?_) ?_ ?_
                      rotate_left
                      ·show Act.put _ (some 108) _ = _
                       simp only [Act.put, List.setIfInBounds_toArray, List.set_cons_zero, List.set_cons_succ, i64_w, i32_w]
                       rfl
                      refine pure_ (i := 4) (N := some 109) (v := ?_) (a' := ?_) #[true, true, true, true, true, false] rfl rfl (by kernel_rfl) (fun _ _ _ h => h) (Or.inl ⟨by rfl, ?_⟩) ?_ ?_
                      rotate_left
                      ·intro w'
                       go_simp
                       with_reducible rfl
                      rotate_left
                      ·simp only [Act.put, List.setIfInBounds_toArray, List.set_cons_zero, List.set_cons_succ, i64_w, i32_w]
                       rfl
                      refine last_ (i := 5) (N := none) #[true, true, true, true, true, true] rfl rfl (by kernel_rfl) (by decide) (fun K hK => ?_)
                      refine skip_ (w1 := ?_) (by rfl) rfl ?_ ?_
                      rotate_left
                      ·go_simp
                       rfl
                      refine hK.out _ _ ?_
                      clear hK K
                      refine done_ (by kernel_rfl) ?_
                      try go_wp2
                      go_roundg kj34
                      case measure => have := HJ3.out; have := HK2.out; have := HJ34.out; omega
                      case rel => exact ⟨(false), (x41_2), (wrap64 (x41_2 + 1)), (y596), (.slice (some ⟨go160, 0, none⟩) x558001_2.length co160), eq_now, eq_now, eq_now, H', ⟨by have := HJ3.out; have := HK2.out; have := HJ34.out; omega⟩, ⟨by (with_reducible repeat (first | apply Kd.R_alloc | apply Kd.R_drewN | apply Kd.R_drew)); exact Kd.R_mono (Kd.R_far (p := ⟨go160, (x41_2 : Int).toNat * 5 + 4, none⟩) (Kd.R_far (p := ⟨go160, (x41_2 : Int).toNat * 5 + 3, none⟩) (Kd.R_far (p := ⟨go160, (x41_2 : Int).toNat * 5 + 2, none⟩) (Kd.R_far (p := ⟨go160, (x41_2 : Int).toNat * 5 + 1, none⟩) (Kd.R_far (p := ⟨go160, (x41_2 : Int).toNat * 5, none⟩) (Kd.R_types HO_4.out GH160.out (by decide)) (fun _ hk => hk.2) (.int .u8 t591)) (fun _ hk => hk.2) (.int .u8 t592)) (fun _ hk => hk.2) (.int .u8 t593)) (fun _ hk => hk.2) (.int .i16 t594)) (fun _ hk => hk.2) (.int .i32 t595)) (fun _ hk => trivial)⟩, ⟨by (with_reducible repeat (first | apply Kd.R_alloc | apply Kd.R_drewN | apply Kd.R_drew)); exact Kd.R_mono (Kd.R_far (p := ⟨go160, (x41_2 : Int).toNat * 5 + 4, none⟩) (Kd.R_far (p := ⟨go160, (x41_2 : Int).toNat * 5 + 3, none⟩) (Kd.R_far (p := ⟨go160, (x41_2 : Int).toNat * 5 + 2, none⟩) (Kd.R_far (p := ⟨go160, (x41_2 : Int).toNat * 5 + 1, none⟩) (Kd.R_far (p := ⟨go160, (x41_2 : Int).toNat * 5, none⟩) (Kd.R_types HO_558000.out GH160.out (by decide)) (fun _ hk => hk.2) (.int .u8 t591)) (fun _ hk => hk.2) (.int .u8 t592)) (fun _ hk => hk.2) (.int .u8 t593)) (fun _ hk => hk.2) (.int .i16 t594)) (fun _ hk => hk.2) (.int .i32 t595)) (fun _ hk => trivial)⟩, ⟨by (with_reducible repeat (first | apply Kd.R_alloc | apply Kd.R_drewN | apply Kd.R_drew)); exact Kd.R_mono HQ180.out (fun _ hk => trivial)⟩, ⟨by (with_reducible repeat (first | refine blk_drewN ?_ _ | refine blk_drew ?_ | refine blk_alloc ?_ _)); refine blk_far ?_ (by have h_ := Kd.R_ne HO_558001.out BK548.out (by decide); intro e_; exact h_ (by rw [e_]; rfl)) _; (with_reducible repeat (first | refine blk_drewN ?_ _ | refine blk_drew ?_ | refine blk_alloc ?_ _)); refine blk_far ?_ (by have h_ := Kd.R_ne HO_558001.out BK548.out (by decide); intro e_; exact h_ (by rw [e_]; rfl)) _; (with_reducible repeat (first | refine blk_drewN ?_ _ | refine blk_drew ?_ | refine blk_alloc ?_ _)); refine blk_far ?_ (by have h_ := Kd.R_ne HO_558001.out BK548.out (by decide); intro e_; exact h_ (by rw [e_]; rfl)) _; (with_reducible repeat (first | refine blk_drewN ?_ _ | refine blk_drew ?_ | refine blk_alloc ?_ _)); refine blk_far ?_ (by have h_ := Kd.R_ne HO_558001.out BK548.out (by decide); intro e_; exact h_ (by rw [e_]; rfl)) _; (with_reducible repeat (first | refine blk_drewN ?_ _ | refine blk_drew ?_ | refine blk_alloc ?_ _)); refine blk_far ?_ (by have h_ := Kd.R_ne HO_558001.out BK548.out (by decide); intro e_; exact h_ (by rw [e_]; rfl)) _; (with_reducible repeat (first | refine blk_drewN ?_ _ | refine blk_drew ?_ | refine blk_alloc ?_ _)); exact BK548.out⟩, ⟨by (with_reducible repeat (first | refine blk_drewN ?_ _ | refine blk_drew ?_ | refine blk_alloc ?_ _)); refine blk_far ?_ (by have h_ := Kd.R_ne HO_558001.out BK557.out (by decide); intro e_; exact h_ (by rw [e_]; rfl)) _; (with_reducible repeat (first | refine blk_drewN ?_ _ | refine blk_drew ?_ | refine blk_alloc ?_ _)); refine blk_far ?_ (by have h_ := Kd.R_ne HO_558001.out BK557.out (by decide); intro e_; exact h_ (by rw [e_]; rfl)) _; (with_reducible repeat (first | refine blk_drewN ?_ _ | refine blk_drew ?_ | refine blk_alloc ?_ _)); refine blk_far ?_ (by have h_ := Kd.R_ne HO_558001.out BK557.out (by decide); intro e_; exact h_ (by rw [e_]; rfl)) _; (with_reducible repeat (first | refine blk_drewN ?_ _ | refine blk_drew ?_ | refine blk_alloc ?_ _)); refine blk_far ?_ (by have h_ := Kd.R_ne HO_558001.out BK557.out (by decide); intro e_; exact h_ (by rw [e_]; rfl)) _; (with_reducible repeat (first | refine blk_drewN ?_ _ | refine blk_drew ?_ | refine blk_alloc ?_ _)); refine blk_far ?_ (by have h_ := Kd.R_ne HO_558001.out BK557.out (by decide); intro e_; exact h_ (by rw [e_]; rfl)) _; (with_reducible repeat (first | refine blk_drewN ?_ _ | refine blk_drew ?_ | refine blk_alloc ?_ _)); exact BK557.out⟩, ⟨by repeat (first | (with_reducible first | exact HB.out | apply below_alloc | apply pw_below_drewN | apply below_drew1 | refine below_set ?_ GB160.out | refine below_set ?_ GB160.out | refine below_set ?_ GB160.out | refine below_set ?_ GB160.out | refine below_set ?_ GB160.out | refine below_set ?_ GE548.out | refine below_set ?_ GE557.out | refine below_set ?_ GE565.out | refine below_set ?_ GE573.out) | exact HB.out)⟩⟩
                     ·rw [if_neg c162] at H
                      have c162b0 : (x41_2 == (wrap64 ((l0_1.length : Int) - 1))) = false := beq_eq_false_iff_ne.mpr c162
                      have c162b1 : (x41_2 != (wrap64 ((l0_1.length : Int) - 1))) = true := bne_iff_ne.mpr c162
                      have H' := Aside0.mk H
                      clear H
                      have hnb181 := NB565_548.out
                      have hnc181 := NB548_565.out
                      have hnb182 := NB565_557.out
                      have hnc182 := NB557_565.out
                      have hnb183 := NB565_573.out
                      have hnc183 := NB573_565.out
                      have hcz184 := blk_all5 BK565.out
                      go_wp2_with (first | ((with_reducible refine gate_callee (f := 19) rfl ?_); refine sh_call (some 71) Tryd.func19 #[.int .i64 x41_2, .agg #[.int .u8 ((rd_T40 l0_1 x41_2).f0), .int .u8 ((rd_T40 l0_1 x41_2).f1), .int .u8 ((rd_T40 l0_1 x41_2).f2), .int .i16 ((rd_T40 l0_1 x41_2).f3), .int .i32 ((rd_T40 l0_1 x41_2).f4)]] ?_; (with_reducible refine (shape_Target.calls x41_2 ((rd_T40 l0_1 x41_2).f0) ((rd_T40 l0_1 x41_2).f1) ((rd_T40 l0_1 x41_2).f2) ((rd_T40 l0_1 x41_2).f3) ((rd_T40 l0_1 x41_2).f4) t574 _ A57.out).mono ?_); rintro e w185 ⟨rfl, hb⟩; refine ⟨_, rfl, ?_⟩; replace HO_4 := Aside0.mk (Kd.R_below (by (with_reducible repeat (first | apply Kd.R_alloc | apply Kd.R_drewN | apply Kd.R_drew)); exact HO_4.out) hb); replace HO_558000 := Aside0.mk (Kd.R_below (by (with_reducible repeat (first | apply Kd.R_alloc | apply Kd.R_drewN | apply Kd.R_drew)); exact HO_558000.out) hb); replace HO_558001 := Aside0.mk (Kd.R_below (by (with_reducible repeat (first | apply Kd.R_alloc | apply Kd.R_drewN | apply Kd.R_drew)); exact HO_558001.out) hb); replace BK548 := sh_k BK548 hb; replace BK557 := sh_k BK557 hb; replace BK565 := sh_k BK565 hb; replace BK573 := sh_k BK573 hb; replace HB := sh_b (w := w) hb; (try clear hb); (try clear hb2); (try clear hk); (try clear hi); have hnb186 := NB557_548.out; have hnc186 := NB548_557.out; have hnb187 := NB557_573.out; have hnc187 := NB573_557.out; have hcz188 := blk_all2 BK557.out; have p160 : 0 ≤ (x41_2 : Int) := of_decide_eq_true (by first | (with_reducible assumption) | assumption); have q160 : (x41_2 : Int) < ((x558001_2.length : Int) : Int) := of_decide_eq_true (by first | (with_reducible assumption) | assumption); obtain ⟨go160, co160, eo160, gb160, gl160, cl160, HG160⟩ := Kd.R_form HO_558001.out (by omega); (first | cases eo160 | (injection eo160 with ea_ en_ ec_; (first | subst ea_ | (injection ea_ with ea_; subst ea_)); subst ec_; clear en_)); have GB160 := Aside0.mk gb160; have GG160 := Aside0.mk HG160; clear gb160 gl160 HG160; obtain ⟨ce160, hcl160, hM160, hcc160, hfr160⟩ := Kd.R_elem HO_558001.out z40 (x41_2 : Int) p160 q160; obtain rfl := k40_openM hM160; have hx160_0 : w185.cell? ⟨go160, (x41_2 : Int).toNat * 5, none⟩ = some (.int .u8 ((rd_T40 x558001_2 x41_2).f0)) := hcc160 0 _ rfl; have hx160_1 : w185.cell? ⟨go160, (x41_2 : Int).toNat * 5 + 1, none⟩ = some (.int .u8 ((rd_T40 x558001_2 x41_2).f1)) := hcc160 1 _ rfl; have hx160_2 : w185.cell? ⟨go160, (x41_2 : Int).toNat * 5 + 2, none⟩ = some (.int .u8 ((rd_T40 x558001_2 x41_2).f2)) := hcc160 2 _ rfl; have hx160_3 : w185.cell? ⟨go160, (x41_2 : Int).toNat * 5 + 3, none⟩ = some (.int .i16 ((rd_T40 x558001_2 x41_2).f3)) := hcc160 3 _ rfl; have hx160_4 : w185.cell? ⟨go160, (x41_2 : Int).toNat * 5 + 4, none⟩ = some (.int .i32 ((rd_T40 x558001_2 x41_2).f4)) := hcc160 4 _ rfl; have hf160_0 : w185.frozen? ⟨go160, (x41_2 : Int).toNat * 5, none⟩ = false := hfr160 0; have hf160_1 : w185.frozen? ⟨go160, (x41_2 : Int).toNat * 5 + 1, none⟩ = false := hfr160 1; have hf160_2 : w185.frozen? ⟨go160, (x41_2 : Int).toNat * 5 + 2, none⟩ = false := hfr160 2; have hf160_3 : w185.frozen? ⟨go160, (x41_2 : Int).toNat * 5 + 3, none⟩ = false := hfr160 3; have hf160_4 : w185.frozen? ⟨go160, (x41_2 : Int).toNat * 5 + 4, none⟩ = false := hfr160 4; clear hcl160 hcc160 hfr160 hM160; replace p160 := eq_true p160; replace q160 := eq_true q160; have HX189 := Aside0.mk (show Kd.R k40 40 w185 w.heap.size (fun k_ => k_ ≠ gb565) (.slice (some ⟨go160, 0, none⟩) x558001_2.length co160) x558001_2 from (by (with_reducible repeat (first | apply Kd.R_alloc | apply Kd.R_drewN | apply Kd.R_drew)); exact HO_558001.out)); obtain ⟨ce189, hcl189, hM189, hcc189, hfr189⟩ := Kd.R_elem HX189.out z40 (x41_2 : Int) (of_decide_eq_true (by first | (with_reducible assumption) | assumption)) (by have h_ : (x41_2 : Int) < ((x558001_2.length : Int) : Int) := of_decide_eq_true (by first | (with_reducible assumption) | assumption); first | exact h_ | (have e_ := (Kd.R_reads' HO_558001.out).1; omega) | simpa using h_); obtain rfl := k40_openM hM189; have HP189 := Kd.R_seg HX189.out (x41_2 : Int) (of_decide_eq_true (by first | (with_reducible assumption) | assumption)) (by have h_ : (x41_2 : Int) < ((x558001_2.length : Int) : Int) := of_decide_eq_true (by first | (with_reducible assumption) | assumption); first | exact h_ | (have e_ := (Kd.R_reads' HO_558001.out).1; omega) | simpa using h_) (seg := [.int .u8 7, .int .u8 0, .int .u8 0, .int .i16 0, .int .i32 0]) (j := 0) hcl189 hcc189 (show 5 ≤ 5 from by decide) (x' := (⟨7, 0, 0, 0, 0⟩ : S40)) (k40_mkM _ _ _ (⟨7, 0, 0, 0, 0⟩ : S40) ) (fun _ hk => hk); have hx189_0 := hcc189 0 _ rfl; (try simp only [show (k40).sz = 5 from rfl, Nat.mul_one, Nat.add_zero] at hx189_0); have hf189_0 := hfr189 0; (try simp only [show (k40).sz = 5 from rfl, Nat.mul_one, Nat.add_zero] at hf189_0); have hx189_1 := hcc189 1 _ rfl; (try simp only [show (k40).sz = 5 from rfl, Nat.mul_one, Nat.add_zero] at hx189_1); have hf189_1 := hfr189 1; (try simp only [show (k40).sz = 5 from rfl, Nat.mul_one, Nat.add_zero] at hf189_1); have hx189_2 := hcc189 2 _ rfl; (try simp only [show (k40).sz = 5 from rfl, Nat.mul_one, Nat.add_zero] at hx189_2); have hf189_2 := hfr189 2; (try simp only [show (k40).sz = 5 from rfl, Nat.mul_one, Nat.add_zero] at hf189_2); have hx189_3 := hcc189 3 _ rfl; (try simp only [show (k40).sz = 5 from rfl, Nat.mul_one, Nat.add_zero] at hx189_3); have hf189_3 := hfr189 3; (try simp only [show (k40).sz = 5 from rfl, Nat.mul_one, Nat.add_zero] at hf189_3); have hx189_4 := hcc189 4 _ rfl; (try simp only [show (k40).sz = 5 from rfl, Nat.mul_one, Nat.add_zero] at hx189_4); have hf189_4 := hfr189 4; (try simp only [show (k40).sz = 5 from rfl, Nat.mul_one, Nat.add_zero] at hf189_4); clear hcl189 hcc189 hfr189 hM189) | ((with_reducible refine gate_store (t := 40) (p := 93) rfl ?_); refine store_event (t := 40) (p := 93) (v := ?vo_w190) (w1 := (((((w185.setCell ⟨go160, (x41_2 : Int).toNat * 5, none⟩ (.int .u8 7)).setCell ⟨go160, (x41_2 : Int).toNat * 5 + 1, none⟩ (.int .u8 0)).setCell ⟨go160, (x41_2 : Int).toNat * 5 + 2, none⟩ (.int .u8 0)).setCell ⟨go160, (x41_2 : Int).toNat * 5 + 3, none⟩ (.int .i16 0)).setCell ⟨go160, (x41_2 : Int).toNat * 5 + 4, none⟩ (.int .i32 0))) ?hg ?ho ?hn ?hr ?_; (case ho => rfl); (case hg => rfl); (case hn => rfl); (case hr => first | (go_simp; done) | (go_simp; rfl)); intro w190 hw; have hg : w185.grownBy w190 (some go160) := (by rw [hw]; exact HP189.2); have hp_ : Kd.R k40 40 w190 w.heap.size (fun k_ => k_ ≠ gb565) (.slice (some ⟨go160, 0, none⟩) x558001_2.length co160) y590 := (by rw [hw, Ny590.out]; exact HP189.1); clear HP189; have n0_ := Aside0.mk (Kd.R_over' (v := (.slice (some ⟨go160, 0, none⟩) x558001_2.length co160)) (by (with_reducible repeat (first | apply Kd.R_alloc | apply Kd.R_drewN | apply Kd.R_drew)); exact HO_4.out) (Kd.R_typed HO_558001.out) (by decide) hg); have n1_ := Aside0.mk (Kd.R_over' (v := (.slice (some ⟨go160, 0, none⟩) x558001_2.length co160)) (by (with_reducible repeat (first | apply Kd.R_alloc | apply Kd.R_drewN | apply Kd.R_drew)); exact HO_558000.out) (Kd.R_typed HO_558001.out) (by decide) hg); have n2_ := Aside0.mk (hp_); have n3_ := Aside0.mk (blk_grown (g := gb548) (o := .cells #[.slice A0_0 l0_0.length c0_0, .slice (some ad564) l0_1.length c0_1] 25 (0, 0)) bk_now hg (Kd.R_ne HO_558001.out BK548.out (by decide))); have n4_ := Aside0.mk (blk_grown (g := gb557) (o := .cells #[.slice Ao20 t551.length co20, .slice (some ⟨go160, 0, none⟩) x558001_2.length co160] 25 (0, 0)) bk_now hg (Kd.R_ne HO_558001.out BK557.out (by decide))); have n5_ := Aside0.mk (blk_grown (g := gb565) (o := .cells #[.int .u8 ((rd_T40 l0_1 x41_2).f0), .int .u8 ((rd_T40 l0_1 x41_2).f1), .int .u8 ((rd_T40 l0_1 x41_2).f2), .int .i16 ((rd_T40 l0_1 x41_2).f3), .int .i32 ((rd_T40 l0_1 x41_2).f4)] 40 (0, 0)) bk_now hg (Kd.R_away HO_558001.out (fun _ hk => hk))); have n6_ := Aside0.mk (blk_grown (g := gb573) (o := .cells #[.int .i64 t567, .int .i64 t568, .int .i64 t569, .bool t570, .bool t571] 45 (0, 0)) bk_now hg (Kd.R_ne HO_558001.out BK573.out (by decide))); have n7_ := Aside0.mk ((by rw [hw]; exact below_set (below_set (below_set (below_set (below_set (HB.out) GB160.out) GB160.out) GB160.out) GB160.out) GB160.out : Below w.heap.size w w190)); clear HO_4; clear HO_558000; clear HO_558001; clear BK548; clear BK557; clear BK565; clear BK573; clear HB; have HO_4 := n0_; have HO_558000 := n1_; have HO_558001 := n2_; have BK548 := n3_; have BK557 := n4_; have BK565 := n5_; have BK573 := n6_; have HB := n7_; clear n0_ n1_ n2_ n3_ n4_ n5_ n6_ n7_; clear hg hw hp_; have hnb191 := NB573_548.out; have hnc191 := NB548_573.out; have hcz192 := blk_all5 BK573.out; have hcz193 := blk_all2 BK548.out))
                      go_roundg kj34
                      case measure => have := HJ3.out; have := HK2.out; have := HJ34.out; omega
                      case rel => exact ⟨(false), (x41_2), (wrap64 (x41_2 + 1)), (y590), (.slice (some ⟨go160, 0, none⟩) x558001_2.length co160), eq_now, eq_now, eq_now, H', ⟨by have := HJ3.out; have := HK2.out; have := HJ34.out; omega⟩, ⟨by (with_reducible repeat (first | apply Kd.R_alloc | apply Kd.R_drewN | apply Kd.R_drew)); exact HO_4.out⟩, ⟨by (with_reducible repeat (first | apply Kd.R_alloc | apply Kd.R_drewN | apply Kd.R_drew)); exact HO_558000.out⟩, ⟨by (with_reducible repeat (first | apply Kd.R_alloc | apply Kd.R_drewN | apply Kd.R_drew)); exact Kd.R_mono HO_558001.out (fun _ hk => trivial)⟩, ⟨bk_now⟩, ⟨bk_now⟩, ⟨b_now⟩⟩
                    ·rw [if_neg c161] at H
                     have c161b0 : (t567 == 7) = false := beq_eq_false_iff_ne.mpr c161
                     have c161b1 : (t567 != 7) = true := bne_iff_ne.mpr c161
                     have H' := Aside0.mk H
                     clear H
                     have hnb194 := NB565_548.out
                     have hnc194 := NB548_565.out
                     have hnb195 := NB565_557.out
                     have hnc195 := NB557_565.out
                     have hnb196 := NB565_573.out
                     have hnc196 := NB573_565.out
                     have hcz197 := blk_all5 BK565.out
                     go_wp2_with (first | ((with_reducible refine gate_callee (f := 19) rfl ?_); refine sh_call (some 71) Tryd.func19 #[.int .i64 x41_2, .agg #[.int .u8 ((rd_T40 l0_1 x41_2).f0), .int .u8 ((rd_T40 l0_1 x41_2).f1), .int .u8 ((rd_T40 l0_1 x41_2).f2), .int .i16 ((rd_T40 l0_1 x41_2).f3), .int .i32 ((rd_T40 l0_1 x41_2).f4)]] ?_; (with_reducible refine (shape_Target.calls x41_2 ((rd_T40 l0_1 x41_2).f0) ((rd_T40 l0_1 x41_2).f1) ((rd_T40 l0_1 x41_2).f2) ((rd_T40 l0_1 x41_2).f3) ((rd_T40 l0_1 x41_2).f4) t574 _ A57.out).mono ?_); rintro e w198 ⟨rfl, hb⟩; refine ⟨_, rfl, ?_⟩; replace HO_4 := Aside0.mk (Kd.R_below (by (with_reducible repeat (first | apply Kd.R_alloc | apply Kd.R_drewN | apply Kd.R_drew)); exact HO_4.out) hb); replace HO_558000 := Aside0.mk (Kd.R_below (by (with_reducible repeat (first | apply Kd.R_alloc | apply Kd.R_drewN | apply Kd.R_drew)); exact HO_558000.out) hb); replace HO_558001 := Aside0.mk (Kd.R_below (by (with_reducible repeat (first | apply Kd.R_alloc | apply Kd.R_drewN | apply Kd.R_drew)); exact HO_558001.out) hb); replace BK548 := sh_k BK548 hb; replace BK557 := sh_k BK557 hb; replace BK565 := sh_k BK565 hb; replace BK573 := sh_k BK573 hb; replace HB := sh_b (w := w) hb; (try clear hb); (try clear hb2); (try clear hk); (try clear hi); have hnb199 := NB557_548.out; have hnc199 := NB548_557.out; have hnb200 := NB557_573.out; have hnc200 := NB573_557.out; have hcz201 := blk_all2 BK557.out; have p160 : 0 ≤ (x41_2 : Int) := of_decide_eq_true (by first | (with_reducible assumption) | assumption); have q160 : (x41_2 : Int) < ((x558001_2.length : Int) : Int) := of_decide_eq_true (by first | (with_reducible assumption) | assumption); obtain ⟨go160, co160, eo160, gb160, gl160, cl160, HG160⟩ := Kd.R_form HO_558001.out (by omega); (first | cases eo160 | (injection eo160 with ea_ en_ ec_; (first | subst ea_ | (injection ea_ with ea_; subst ea_)); subst ec_; clear en_)); have GB160 := Aside0.mk gb160; have GG160 := Aside0.mk HG160; clear gb160 gl160 HG160; obtain ⟨ce160, hcl160, hM160, hcc160, hfr160⟩ := Kd.R_elem HO_558001.out z40 (x41_2 : Int) p160 q160; obtain rfl := k40_openM hM160; have hx160_0 : w198.cell? ⟨go160, (x41_2 : Int).toNat * 5, none⟩ = some (.int .u8 ((rd_T40 x558001_2 x41_2).f0)) := hcc160 0 _ rfl; have hx160_1 : w198.cell? ⟨go160, (x41_2 : Int).toNat * 5 + 1, none⟩ = some (.int .u8 ((rd_T40 x558001_2 x41_2).f1)) := hcc160 1 _ rfl; have hx160_2 : w198.cell? ⟨go160, (x41_2 : Int).toNat * 5 + 2, none⟩ = some (.int .u8 ((rd_T40 x558001_2 x41_2).f2)) := hcc160 2 _ rfl; have hx160_3 : w198.cell? ⟨go160, (x41_2 : Int).toNat * 5 + 3, none⟩ = some (.int .i16 ((rd_T40 x558001_2 x41_2).f3)) := hcc160 3 _ rfl; have hx160_4 : w198.cell? ⟨go160, (x41_2 : Int).toNat * 5 + 4, none⟩ = some (.int .i32 ((rd_T40 x558001_2 x41_2).f4)) := hcc160 4 _ rfl; have hf160_0 : w198.frozen? ⟨go160, (x41_2 : Int).toNat * 5, none⟩ = false := hfr160 0; have hf160_1 : w198.frozen? ⟨go160, (x41_2 : Int).toNat * 5 + 1, none⟩ = false := hfr160 1; have hf160_2 : w198.frozen? ⟨go160, (x41_2 : Int).toNat * 5 + 2, none⟩ = false := hfr160 2; have hf160_3 : w198.frozen? ⟨go160, (x41_2 : Int).toNat * 5 + 3, none⟩ = false := hfr160 3; have hf160_4 : w198.frozen? ⟨go160, (x41_2 : Int).toNat * 5 + 4, none⟩ = false := hfr160 4; clear hcl160 hcc160 hfr160 hM160; replace p160 := eq_true p160; replace q160 := eq_true q160; have HX202 := Aside0.mk (show Kd.R k40 40 w198 w.heap.size (fun k_ => k_ ≠ gb565) (.slice (some ⟨go160, 0, none⟩) x558001_2.length co160) x558001_2 from (by (with_reducible repeat (first | apply Kd.R_alloc | apply Kd.R_drewN | apply Kd.R_drew)); exact HO_558001.out)); obtain ⟨ce202, hcl202, hM202, hcc202, hfr202⟩ := Kd.R_elem HX202.out z40 (x41_2 : Int) (of_decide_eq_true (by first | (with_reducible assumption) | assumption)) (by have h_ : (x41_2 : Int) < ((x558001_2.length : Int) : Int) := of_decide_eq_true (by first | (with_reducible assumption) | assumption); first | exact h_ | (have e_ := (Kd.R_reads' HO_558001.out).1; omega) | simpa using h_); obtain rfl := k40_openM hM202; have HP202 := Kd.R_seg HX202.out (x41_2 : Int) (of_decide_eq_true (by first | (with_reducible assumption) | assumption)) (by have h_ : (x41_2 : Int) < ((x558001_2.length : Int) : Int) := of_decide_eq_true (by first | (with_reducible assumption) | assumption); first | exact h_ | (have e_ := (Kd.R_reads' HO_558001.out).1; omega) | simpa using h_) (seg := [.int .u8 7, .int .u8 0, .int .u8 0, .int .i16 0, .int .i32 0]) (j := 0) hcl202 hcc202 (show 5 ≤ 5 from by decide) (x' := (⟨7, 0, 0, 0, 0⟩ : S40)) (k40_mkM _ _ _ (⟨7, 0, 0, 0, 0⟩ : S40) ) (fun _ hk => hk); have hx202_0 := hcc202 0 _ rfl; (try simp only [show (k40).sz = 5 from rfl, Nat.mul_one, Nat.add_zero] at hx202_0); have hf202_0 := hfr202 0; (try simp only [show (k40).sz = 5 from rfl, Nat.mul_one, Nat.add_zero] at hf202_0); have hx202_1 := hcc202 1 _ rfl; (try simp only [show (k40).sz = 5 from rfl, Nat.mul_one, Nat.add_zero] at hx202_1); have hf202_1 := hfr202 1; (try simp only [show (k40).sz = 5 from rfl, Nat.mul_one, Nat.add_zero] at hf202_1); have hx202_2 := hcc202 2 _ rfl; (try simp only [show (k40).sz = 5 from rfl, Nat.mul_one, Nat.add_zero] at hx202_2); have hf202_2 := hfr202 2; (try simp only [show (k40).sz = 5 from rfl, Nat.mul_one, Nat.add_zero] at hf202_2); have hx202_3 := hcc202 3 _ rfl; (try simp only [show (k40).sz = 5 from rfl, Nat.mul_one, Nat.add_zero] at hx202_3); have hf202_3 := hfr202 3; (try simp only [show (k40).sz = 5 from rfl, Nat.mul_one, Nat.add_zero] at hf202_3); have hx202_4 := hcc202 4 _ rfl; (try simp only [show (k40).sz = 5 from rfl, Nat.mul_one, Nat.add_zero] at hx202_4); have hf202_4 := hfr202 4; (try simp only [show (k40).sz = 5 from rfl, Nat.mul_one, Nat.add_zero] at hf202_4); clear hcl202 hcc202 hfr202 hM202) | ((with_reducible refine gate_store (t := 40) (p := 93) rfl ?_); refine store_event (t := 40) (p := 93) (v := ?vo_w203) (w1 := (((((w198.setCell ⟨go160, (x41_2 : Int).toNat * 5, none⟩ (.int .u8 7)).setCell ⟨go160, (x41_2 : Int).toNat * 5 + 1, none⟩ (.int .u8 0)).setCell ⟨go160, (x41_2 : Int).toNat * 5 + 2, none⟩ (.int .u8 0)).setCell ⟨go160, (x41_2 : Int).toNat * 5 + 3, none⟩ (.int .i16 0)).setCell ⟨go160, (x41_2 : Int).toNat * 5 + 4, none⟩ (.int .i32 0))) ?hg ?ho ?hn ?hr ?_; (case ho => rfl); (case hg => rfl); (case hn => rfl); (case hr => first | (go_simp; done) | (go_simp; rfl)); intro w203 hw; have hg : w198.grownBy w203 (some go160) := (by rw [hw]; exact HP202.2); have hp_ : Kd.R k40 40 w203 w.heap.size (fun k_ => k_ ≠ gb565) (.slice (some ⟨go160, 0, none⟩) x558001_2.length co160) y590 := (by rw [hw, Ny590.out]; exact HP202.1); clear HP202; have n0_ := Aside0.mk (Kd.R_over' (v := (.slice (some ⟨go160, 0, none⟩) x558001_2.length co160)) (by (with_reducible repeat (first | apply Kd.R_alloc | apply Kd.R_drewN | apply Kd.R_drew)); exact HO_4.out) (Kd.R_typed HO_558001.out) (by decide) hg); have n1_ := Aside0.mk (Kd.R_over' (v := (.slice (some ⟨go160, 0, none⟩) x558001_2.length co160)) (by (with_reducible repeat (first | apply Kd.R_alloc | apply Kd.R_drewN | apply Kd.R_drew)); exact HO_558000.out) (Kd.R_typed HO_558001.out) (by decide) hg); have n2_ := Aside0.mk (hp_); have n3_ := Aside0.mk (blk_grown (g := gb548) (o := .cells #[.slice A0_0 l0_0.length c0_0, .slice (some ad564) l0_1.length c0_1] 25 (0, 0)) bk_now hg (Kd.R_ne HO_558001.out BK548.out (by decide))); have n4_ := Aside0.mk (blk_grown (g := gb557) (o := .cells #[.slice Ao20 t551.length co20, .slice (some ⟨go160, 0, none⟩) x558001_2.length co160] 25 (0, 0)) bk_now hg (Kd.R_ne HO_558001.out BK557.out (by decide))); have n5_ := Aside0.mk (blk_grown (g := gb565) (o := .cells #[.int .u8 ((rd_T40 l0_1 x41_2).f0), .int .u8 ((rd_T40 l0_1 x41_2).f1), .int .u8 ((rd_T40 l0_1 x41_2).f2), .int .i16 ((rd_T40 l0_1 x41_2).f3), .int .i32 ((rd_T40 l0_1 x41_2).f4)] 40 (0, 0)) bk_now hg (Kd.R_away HO_558001.out (fun _ hk => hk))); have n6_ := Aside0.mk (blk_grown (g := gb573) (o := .cells #[.int .i64 t567, .int .i64 t568, .int .i64 t569, .bool t570, .bool t571] 45 (0, 0)) bk_now hg (Kd.R_ne HO_558001.out BK573.out (by decide))); have n7_ := Aside0.mk ((by rw [hw]; exact below_set (below_set (below_set (below_set (below_set (HB.out) GB160.out) GB160.out) GB160.out) GB160.out) GB160.out : Below w.heap.size w w203)); clear HO_4; clear HO_558000; clear HO_558001; clear BK548; clear BK557; clear BK565; clear BK573; clear HB; have HO_4 := n0_; have HO_558000 := n1_; have HO_558001 := n2_; have BK548 := n3_; have BK557 := n4_; have BK565 := n5_; have BK573 := n6_; have HB := n7_; clear n0_ n1_ n2_ n3_ n4_ n5_ n6_ n7_; clear hg hw hp_; have hnb204 := NB573_548.out; have hnc204 := NB548_573.out; have hcz205 := blk_all5 BK573.out))
                     go_roundg kj34
                     case measure => have := HJ3.out; have := HK2.out; have := HJ34.out; omega
                     case rel => exact ⟨(false), (x41_2), (wrap64 (x41_2 + 1)), (y590), (.slice (some ⟨go160, 0, none⟩) x558001_2.length co160), eq_now, eq_now, eq_now, H', ⟨by have := HJ3.out; have := HK2.out; have := HJ34.out; omega⟩, ⟨by (with_reducible repeat (first | apply Kd.R_alloc | apply Kd.R_drewN | apply Kd.R_drew)); exact HO_4.out⟩, ⟨by (with_reducible repeat (first | apply Kd.R_alloc | apply Kd.R_drewN | apply Kd.R_drew)); exact HO_558000.out⟩, ⟨by (with_reducible repeat (first | apply Kd.R_alloc | apply Kd.R_drewN | apply Kd.R_drew)); exact Kd.R_mono HO_558001.out (fun _ hk => trivial)⟩, ⟨bk_now⟩, ⟨bk_now⟩, ⟨b_now⟩⟩
                   ·rw [if_neg c159] at H
                    exact absurd H (by simp)
                  ·rw [if_neg c158] at H
                   exact absurd H (by simp)
                ·replace c58 := Bool.eq_false_iff.mpr c58
                 subst c58
                 replace H := sh_f H
                 by_cases c206 : 0 ≤ x41_2
                 ·rw [if_pos c206] at H
                  have c206b0 : decide (0 ≤ x41_2) = true := decide_eq_true c206
                  clear c206
                  by_cases c207 : x41_2 < (x558001_2.length : Int)
                  ·rw [if_pos c207] at H
                   have c207b0 : decide (x41_2 < (x558001_2.length : Int)) = true := decide_eq_true c207
                   clear c207
                   obtain ⟨y597, hy597⟩ : ∃ y_ : List (S40), y_ = (x558001_2.set (x41_2 : Int).toNat (⟨7, 0, 0, 0, 0⟩ : S40)) := ⟨_, rfl⟩
                   replace H : (if t567 = 7 then (if x41_2 = (wrap64 ((l0_1.length : Int) - 1)) then ((stockadelaw04_exit.f).bind fun bt598 => (stockadelaw04_ShapeJumps.l0 kj34 t558 false x41_2 l0_1 (l0_1.length : Int) (wrap64 (x41_2 + 1)) l0_0 l0_1 t551 (y597.set (x41_2 : Int).toNat (⟨bt598.1, bt598.2.1, bt598.2.2.1, bt598.2.2.2.1, bt598.2.2.2.2⟩ : S40)))) else (stockadelaw04_ShapeJumps.l0 kj34 t558 false x41_2 l0_1 (l0_1.length : Int) (wrap64 (x41_2 + 1)) l0_0 l0_1 t551 y597)) else (stockadelaw04_ShapeJumps.l0 kj34 t558 false x41_2 l0_1 (l0_1.length : Int) (wrap64 (x41_2 + 1)) l0_0 l0_1 t551 y597)) = some r := by first | (rw [hy597]; with_reducible exact H) | (have H2_ := (Option.bind_some _ _).symm.trans H; rw [hy597]; with_reducible exact H2_) | (have H2_ := (Option.bind_some _ _).symm.trans H; with_reducible exact H2_) | with_reducible exact H | (rw [hy597]; exact H) | exact H
                   have Ny597 := Aside0.mk hy597
                   clear hy597
                   by_cases c209 : t567 = 7
                   ·rw [if_pos c209] at H
                    have c209b0 : (t567 == 7) = true := beq_iff_eq.mpr c209
                    have c209b1 : (t567 != 7) = false := bne_eq_false_iff_eq.mpr c209
                    clear c209
                    by_cases c210 : x41_2 = (wrap64 ((l0_1.length : Int) - 1))
                    ·rw [if_pos c210] at H
                     have c210b0 : (x41_2 == (wrap64 ((l0_1.length : Int) - 1))) = true := beq_iff_eq.mpr c210
                     have c210b1 : (x41_2 != (wrap64 ((l0_1.length : Int) - 1))) = false := bne_eq_false_iff_eq.mpr c210
                     clear c210
                     replace H := Option.bind_eq_some_iff.mp H; obtain ⟨⟨t598, t599, t600, t601, t602⟩, A2110, H⟩ := H; try dsimp only at H
                     have A211 := Aside0.mk A2110
                     clear A2110
                     obtain ⟨y603, hy603⟩ : ∃ y_ : List (S40), y_ = (y597.set (x41_2 : Int).toNat (⟨t598, t599, t600, t601, t602⟩ : S40)) := ⟨_, rfl⟩
                     replace H : (stockadelaw04_ShapeJumps.l0 kj34 t558 false x41_2 l0_1 (l0_1.length : Int) (wrap64 (x41_2 + 1)) l0_0 l0_1 t551 y603) = some r := by first | (rw [hy603]; with_reducible exact H) | (have H2_ := (Option.bind_some _ _).symm.trans H; rw [hy603]; with_reducible exact H2_) | (have H2_ := (Option.bind_some _ _).symm.trans H; with_reducible exact H2_) | with_reducible exact H | (rw [hy603]; exact H) | exact H
                     have Ny603 := Aside0.mk hy603
                     clear hy603
                     have H' := Aside0.mk H
                     clear H
                     have hnb213 := NB565_548.out
                     have hnc213 := NB548_565.out
                     have hnb214 := NB565_557.out
                     have hnc214 := NB557_565.out
                     have hnb215 := NB565_573.out
                     have hnc215 := NB573_565.out
                     have hcz216 := blk_all5 BK565.out
                     try go_wp2_with (first | ((with_reducible refine gate_callee (f := 19) rfl ?_); refine sh_call (some 71) Tryd.func19 #[.int .i64 x41_2, .agg #[.int .u8 ((rd_T40 l0_1 x41_2).f0), .int .u8 ((rd_T40 l0_1 x41_2).f1), .int .u8 ((rd_T40 l0_1 x41_2).f2), .int .i16 ((rd_T40 l0_1 x41_2).f3), .int .i32 ((rd_T40 l0_1 x41_2).f4)]] ?_; (with_reducible refine (shape_Target.calls x41_2 ((rd_T40 l0_1 x41_2).f0) ((rd_T40 l0_1 x41_2).f1) ((rd_T40 l0_1 x41_2).f2) ((rd_T40 l0_1 x41_2).f3) ((rd_T40 l0_1 x41_2).f4) t574 _ A57.out).mono ?_); rintro e w217 ⟨rfl, hb⟩; refine ⟨_, rfl, ?_⟩; replace HO_4 := Aside0.mk (Kd.R_below (by (with_reducible repeat (first | apply Kd.R_alloc | apply Kd.R_drewN | apply Kd.R_drew)); exact HO_4.out) hb); replace HO_558000 := Aside0.mk (Kd.R_below (by (with_reducible repeat (first | apply Kd.R_alloc | apply Kd.R_drewN | apply Kd.R_drew)); exact HO_558000.out) hb); replace HO_558001 := Aside0.mk (Kd.R_below (by (with_reducible repeat (first | apply Kd.R_alloc | apply Kd.R_drewN | apply Kd.R_drew)); exact HO_558001.out) hb); replace BK548 := sh_k BK548 hb; replace BK557 := sh_k BK557 hb; replace BK565 := sh_k BK565 hb; replace BK573 := sh_k BK573 hb; replace HB := sh_b (w := w) hb; (try clear hb); (try clear hb2); (try clear hk); (try clear hi); have hnb218 := NB557_548.out; have hnc218 := NB548_557.out; have hnb219 := NB557_573.out; have hnc219 := NB573_557.out; have hcz220 := blk_all2 BK557.out; have p208 : 0 ≤ (x41_2 : Int) := of_decide_eq_true (by first | (with_reducible assumption) | assumption); have q208 : (x41_2 : Int) < ((x558001_2.length : Int) : Int) := of_decide_eq_true (by first | (with_reducible assumption) | assumption); obtain ⟨go208, co208, eo208, gb208, gl208, cl208, HG208⟩ := Kd.R_form HO_558001.out (by omega); (first | cases eo208 | (injection eo208 with ea_ en_ ec_; (first | subst ea_ | (injection ea_ with ea_; subst ea_)); subst ec_; clear en_)); have GB208 := Aside0.mk gb208; have GG208 := Aside0.mk HG208; clear gb208 gl208 HG208; obtain ⟨ce208, hcl208, hM208, hcc208, hfr208⟩ := Kd.R_elem HO_558001.out z40 (x41_2 : Int) p208 q208; obtain rfl := k40_openM hM208; have hx208_0 : w217.cell? ⟨go208, (x41_2 : Int).toNat * 5, none⟩ = some (.int .u8 ((rd_T40 x558001_2 x41_2).f0)) := hcc208 0 _ rfl; have hx208_1 : w217.cell? ⟨go208, (x41_2 : Int).toNat * 5 + 1, none⟩ = some (.int .u8 ((rd_T40 x558001_2 x41_2).f1)) := hcc208 1 _ rfl; have hx208_2 : w217.cell? ⟨go208, (x41_2 : Int).toNat * 5 + 2, none⟩ = some (.int .u8 ((rd_T40 x558001_2 x41_2).f2)) := hcc208 2 _ rfl; have hx208_3 : w217.cell? ⟨go208, (x41_2 : Int).toNat * 5 + 3, none⟩ = some (.int .i16 ((rd_T40 x558001_2 x41_2).f3)) := hcc208 3 _ rfl; have hx208_4 : w217.cell? ⟨go208, (x41_2 : Int).toNat * 5 + 4, none⟩ = some (.int .i32 ((rd_T40 x558001_2 x41_2).f4)) := hcc208 4 _ rfl; have hf208_0 : w217.frozen? ⟨go208, (x41_2 : Int).toNat * 5, none⟩ = false := hfr208 0; have hf208_1 : w217.frozen? ⟨go208, (x41_2 : Int).toNat * 5 + 1, none⟩ = false := hfr208 1; have hf208_2 : w217.frozen? ⟨go208, (x41_2 : Int).toNat * 5 + 2, none⟩ = false := hfr208 2; have hf208_3 : w217.frozen? ⟨go208, (x41_2 : Int).toNat * 5 + 3, none⟩ = false := hfr208 3; have hf208_4 : w217.frozen? ⟨go208, (x41_2 : Int).toNat * 5 + 4, none⟩ = false := hfr208 4; clear hcl208 hcc208 hfr208 hM208; replace p208 := eq_true p208; replace q208 := eq_true q208; have HX221 := Aside0.mk (show Kd.R k40 40 w217 w.heap.size (fun k_ => k_ ≠ gb565) (.slice (some ⟨go208, 0, none⟩) x558001_2.length co208) x558001_2 from (by (with_reducible repeat (first | apply Kd.R_alloc | apply Kd.R_drewN | apply Kd.R_drew)); exact HO_558001.out)); obtain ⟨ce221, hcl221, hM221, hcc221, hfr221⟩ := Kd.R_elem HX221.out z40 (x41_2 : Int) (of_decide_eq_true (by first | (with_reducible assumption) | assumption)) (by have h_ : (x41_2 : Int) < ((x558001_2.length : Int) : Int) := of_decide_eq_true (by first | (with_reducible assumption) | assumption); first | exact h_ | (have e_ := (Kd.R_reads' HO_558001.out).1; omega) | simpa using h_); obtain rfl := k40_openM hM221; have HP221 := Kd.R_seg HX221.out (x41_2 : Int) (of_decide_eq_true (by first | (with_reducible assumption) | assumption)) (by have h_ : (x41_2 : Int) < ((x558001_2.length : Int) : Int) := of_decide_eq_true (by first | (with_reducible assumption) | assumption); first | exact h_ | (have e_ := (Kd.R_reads' HO_558001.out).1; omega) | simpa using h_) (seg := [.int .u8 7, .int .u8 0, .int .u8 0, .int .i16 0, .int .i32 0]) (j := 0) hcl221 hcc221 (show 5 ≤ 5 from by decide) (x' := (⟨7, 0, 0, 0, 0⟩ : S40)) (k40_mkM _ _ _ (⟨7, 0, 0, 0, 0⟩ : S40) ) (fun _ hk => hk); have hx221_0 := hcc221 0 _ rfl; (try simp only [show (k40).sz = 5 from rfl, Nat.mul_one, Nat.add_zero] at hx221_0); have hf221_0 := hfr221 0; (try simp only [show (k40).sz = 5 from rfl, Nat.mul_one, Nat.add_zero] at hf221_0); have hx221_1 := hcc221 1 _ rfl; (try simp only [show (k40).sz = 5 from rfl, Nat.mul_one, Nat.add_zero] at hx221_1); have hf221_1 := hfr221 1; (try simp only [show (k40).sz = 5 from rfl, Nat.mul_one, Nat.add_zero] at hf221_1); have hx221_2 := hcc221 2 _ rfl; (try simp only [show (k40).sz = 5 from rfl, Nat.mul_one, Nat.add_zero] at hx221_2); have hf221_2 := hfr221 2; (try simp only [show (k40).sz = 5 from rfl, Nat.mul_one, Nat.add_zero] at hf221_2); have hx221_3 := hcc221 3 _ rfl; (try simp only [show (k40).sz = 5 from rfl, Nat.mul_one, Nat.add_zero] at hx221_3); have hf221_3 := hfr221 3; (try simp only [show (k40).sz = 5 from rfl, Nat.mul_one, Nat.add_zero] at hf221_3); have hx221_4 := hcc221 4 _ rfl; (try simp only [show (k40).sz = 5 from rfl, Nat.mul_one, Nat.add_zero] at hx221_4); have hf221_4 := hfr221 4; (try simp only [show (k40).sz = 5 from rfl, Nat.mul_one, Nat.add_zero] at hf221_4); clear hcl221 hcc221 hfr221 hM221) | ((with_reducible refine gate_store (t := 40) (p := 93) rfl ?_); refine store_event (t := 40) (p := 93) (v := ?vo_w222) (w1 := (((((w217.setCell ⟨go208, (x41_2 : Int).toNat * 5, none⟩ (.int .u8 7)).setCell ⟨go208, (x41_2 : Int).toNat * 5 + 1, none⟩ (.int .u8 0)).setCell ⟨go208, (x41_2 : Int).toNat * 5 + 2, none⟩ (.int .u8 0)).setCell ⟨go208, (x41_2 : Int).toNat * 5 + 3, none⟩ (.int .i16 0)).setCell ⟨go208, (x41_2 : Int).toNat * 5 + 4, none⟩ (.int .i32 0))) ?hg ?ho ?hn ?hr ?_; (case ho => rfl); (case hg => rfl); (case hn => rfl); (case hr => first | (go_simp; done) | (go_simp; rfl)); intro w222 hw; have hg : w217.grownBy w222 (some go208) := (by rw [hw]; exact HP221.2); have hp_ : Kd.R k40 40 w222 w.heap.size (fun k_ => k_ ≠ gb565) (.slice (some ⟨go208, 0, none⟩) x558001_2.length co208) y597 := (by rw [hw, Ny597.out]; exact HP221.1); clear HP221; have n0_ := Aside0.mk (Kd.R_over' (v := (.slice (some ⟨go208, 0, none⟩) x558001_2.length co208)) (by (with_reducible repeat (first | apply Kd.R_alloc | apply Kd.R_drewN | apply Kd.R_drew)); exact HO_4.out) (Kd.R_typed HO_558001.out) (by decide) hg); have n1_ := Aside0.mk (Kd.R_over' (v := (.slice (some ⟨go208, 0, none⟩) x558001_2.length co208)) (by (with_reducible repeat (first | apply Kd.R_alloc | apply Kd.R_drewN | apply Kd.R_drew)); exact HO_558000.out) (Kd.R_typed HO_558001.out) (by decide) hg); have n2_ := Aside0.mk (hp_); have n3_ := Aside0.mk (blk_grown (g := gb548) (o := .cells #[.slice A0_0 l0_0.length c0_0, .slice (some ad564) l0_1.length c0_1] 25 (0, 0)) bk_now hg (Kd.R_ne HO_558001.out BK548.out (by decide))); have n4_ := Aside0.mk (blk_grown (g := gb557) (o := .cells #[.slice Ao20 t551.length co20, .slice (some ⟨go208, 0, none⟩) x558001_2.length co208] 25 (0, 0)) bk_now hg (Kd.R_ne HO_558001.out BK557.out (by decide))); have n5_ := Aside0.mk (blk_grown (g := gb565) (o := .cells #[.int .u8 ((rd_T40 l0_1 x41_2).f0), .int .u8 ((rd_T40 l0_1 x41_2).f1), .int .u8 ((rd_T40 l0_1 x41_2).f2), .int .i16 ((rd_T40 l0_1 x41_2).f3), .int .i32 ((rd_T40 l0_1 x41_2).f4)] 40 (0, 0)) bk_now hg (Kd.R_away HO_558001.out (fun _ hk => hk))); have n6_ := Aside0.mk (blk_grown (g := gb573) (o := .cells #[.int .i64 t567, .int .i64 t568, .int .i64 t569, .bool t570, .bool t571] 45 (0, 0)) bk_now hg (Kd.R_ne HO_558001.out BK573.out (by decide))); have n7_ := Aside0.mk ((by rw [hw]; exact below_set (below_set (below_set (below_set (below_set (HB.out) GB208.out) GB208.out) GB208.out) GB208.out) GB208.out : Below w.heap.size w w222)); clear HO_4; clear HO_558000; clear HO_558001; clear BK548; clear BK557; clear BK565; clear BK573; clear HB; have HO_4 := n0_; have HO_558000 := n1_; have HO_558001 := n2_; have BK548 := n3_; have BK557 := n4_; have BK565 := n5_; have BK573 := n6_; have HB := n7_; clear n0_ n1_ n2_ n3_ n4_ n5_ n6_ n7_; clear hg hw hp_; have hnb223 := NB573_548.out; have hnc223 := NB548_573.out; have hcz224 := blk_all5 BK573.out; have hcz225 := blk_all2 BK548.out))
                     have n0_ := Aside0.mk (Kd.R_drew HO_4.out)
                     have n1_ := Aside0.mk (Kd.R_drew HO_558000.out)
                     have n2_ := Aside0.mk (Kd.R_drew HO_558001.out)
                     have n3_ := Aside0.mk (blk_drew BK548.out)
                     have n4_ := Aside0.mk (blk_drew BK557.out)
                     have n5_ := Aside0.mk (blk_drew BK565.out)
                     have n6_ := Aside0.mk (blk_drew BK573.out)
                     have n7_ := Aside0.mk (below_drew1 HB.out)
                     clear HO_4
                     clear HO_558000
                     clear HO_558001
                     clear BK548
                     clear BK557
                     clear BK565
                     clear BK573
                     clear HB
                     have HO_4 := n0_
                     have HO_558000 := n1_
                     have HO_558001 := n2_
                     have BK548 := n3_
                     have BK557 := n4_
                     have BK565 := n5_
                     have BK573 := n6_
                     have HB := n7_
                     clear n0_ n1_ n2_ n3_ n4_ n5_ n6_ n7_
                     refine start_ (n := 6) (S := fun w' => w'.cell? ⟨gb557, 0, none⟩ = some (.slice Ao20 t551.length co20) ∧ w'.cell? ⟨gb557, 1, none⟩ = some (.slice (some ⟨go208, 0, none⟩) x558001_2.length co208)) (ds := [5]) #[false, false, false, false, false, false] (by kernel_rfl) rfl rfl ⟨(blk_cell BK557.out 0).trans rfl, (blk_cell BK557.out 1).trans rfl⟩ (fun hHeld => ?_)
                     generalize w222.drew = w226 at HO_4 HO_558000 HO_558001 BK548 BK557 BK565 BK573 HB hHeld ⊢
                     refine pure_ (i := 0) (N := some 105) (v := ?_) (a' := ?_) #[true, false, false, false, false, false] rfl rfl (by kernel_rfl) (fun _ _ _ h => h) (Or.inl ⟨by rfl, ?_⟩) ?_ ?_
                     rotate_left
                     ·intro w'
                      go_simp
                      with_reducible rfl
                     rotate_left
                     ·simp only [Act.put, List.setIfInBounds_toArray, List.set_cons_zero, List.set_cons_succ, i64_w, i32_w]
                      rfl
                     refine pure_ (i := 2) (N := some 107) (v := ?_) (a' := ?_) #[true, false, true, false, false, false] rfl rfl (by kernel_rfl) (fun _ _ _ h => h) (Or.inl ⟨by rfl, ?_⟩) ?_ ?_
                     rotate_left
                     ·intro w'
                      go_simp
                      with_reducible rfl
                     rotate_left
                     ·simp only [Act.put, List.setIfInBounds_toArray, List.set_cons_zero, List.set_cons_succ, i64_w, i32_w]
                      rfl
                     refine take_ (i := 1) (N := some 106) (v := ?_) (a' := ?_) #[true, true, true, false, false, false] rfl rfl (by kernel_rfl) (fun _ _ _ h => h) (Or.inl ⟨by rfl, ?_⟩) hHeld ?_ ?_
                     rotate_left
                     ·rintro w' ⟨s0, s1⟩
                      go_simp
                      with_reducible rfl
                     rotate_left
                     ·simp only [Act.put, List.setIfInBounds_toArray, List.set_cons_zero, List.set_cons_succ, i64_w, i32_w]
                      rfl
                     refine one_ (i := 3) (N := some 108) #[true, true, true, true, false, false] rfl rfl (by kernel_rfl) (by decide) (fun K hK => ?_)
                     refine goes_ Tryd.func24 (by kernel_rfl) rfl #[] (by rfl) rfl rfl (by (try simp only [List.map_toArray, List.map_cons, List.map_nil]); first | done | rfl | (simp only [List.length_drop, List.length_take]; rfl)) ?_
                     with_reducible refine (stockadelaw04_exit.calls  t598 t599 t600 t601 t602 _ A211.out).mono ?_
                     rintro e w227 ⟨rfl, hb⟩
                     refine ⟨_, rfl, ?_⟩
                     have n0_ := Aside0.mk (Kd.R_below (by (with_reducible repeat (first | apply Kd.R_alloc | apply Kd.R_drewN | apply Kd.R_drew)); exact HO_4.out) hb)
                     have n1_ := Aside0.mk (Kd.R_below (by (with_reducible repeat (first | apply Kd.R_alloc | apply Kd.R_drewN | apply Kd.R_drew)); exact HO_558000.out) hb)
                     have n2_ := Aside0.mk (Kd.R_below (by (with_reducible repeat (first | apply Kd.R_alloc | apply Kd.R_drewN | apply Kd.R_drew)); exact HO_558001.out) hb)
                     have n3_ := Aside0.mk (blk_below (g := gb548) (o := .cells #[.slice A0_0 l0_0.length c0_0, .slice (some ad564) l0_1.length c0_1] 25 (0, 0)) bk_now hb)
                     have n4_ := Aside0.mk (blk_below (g := gb557) (o := .cells #[.slice Ao20 t551.length co20, .slice (some ⟨go208, 0, none⟩) x558001_2.length co208] 25 (0, 0)) bk_now hb)
                     have n5_ := Aside0.mk (blk_below (g := gb565) (o := .cells #[.int .u8 ((rd_T40 l0_1 x41_2).f0), .int .u8 ((rd_T40 l0_1 x41_2).f1), .int .u8 ((rd_T40 l0_1 x41_2).f2), .int .i16 ((rd_T40 l0_1 x41_2).f3), .int .i32 ((rd_T40 l0_1 x41_2).f4)] 40 (0, 0)) bk_now hb)
                     have n6_ := Aside0.mk (blk_below (g := gb573) (o := .cells #[.int .i64 t567, .int .i64 t568, .int .i64 t569, .bool t570, .bool t571] 45 (0, 0)) bk_now hb)
                     have n7_ := Aside0.mk (below_step b_now hb)
                     clear HO_4
                     clear HO_558000
                     clear HO_558001
                     clear BK548
                     clear BK557
                     clear BK565
                     clear BK573
                     clear HB
                     have HO_4 := n0_
                     have HO_558000 := n1_
                     have HO_558001 := n2_
                     have BK548 := n3_
                     have BK557 := n4_
                     have BK565 := n5_
                     have BK573 := n6_
                     have HB := n7_
                     clear n0_ n1_ n2_ n3_ n4_ n5_ n6_ n7_
                     (try clear hb)
                     (try clear hb2)
                     (try clear hk)
                     (try clear hi)
                     have p212 : 0 ≤ (x41_2 : Int) := of_decide_eq_true (by first | (with_reducible assumption) | assumption)
                     have q212 : (x41_2 : Int) < ((x558001_2.length : Int) : Int) := of_decide_eq_true (by first | (with_reducible assumption) | assumption)
                     obtain ⟨gh208, ch208, eh208, _, _, cm208, HG208⟩ := Kd.R_form HO_558001.out (by have := (Kd.R_reads' HO_558001.out).1; omega); (obtain rfl : go208 = gh208 := by (injection eh208 with ea_; injection ea_ with ea_; injection ea_)); have GH208 := Aside0.mk HG208; clear HG208; clear eh208
                     obtain ⟨ce212, hcl212, hM212, hcc212, hfr212⟩ := Kd.R_elem HO_558001.out z40 (x41_2 : Int) p212 q212
                     obtain rfl := k40_openM hM212
                     have hx212_0 : World.cell? _ ⟨go208, (x41_2 : Int).toNat * 5, none⟩ = some (.int .u8 ((rd_T40 y597 x41_2).f0)) := hcc212 0 _ rfl
                     have hx212_1 : World.cell? _ ⟨go208, (x41_2 : Int).toNat * 5 + 1, none⟩ = some (.int .u8 ((rd_T40 y597 x41_2).f1)) := hcc212 1 _ rfl
                     have hx212_2 : World.cell? _ ⟨go208, (x41_2 : Int).toNat * 5 + 2, none⟩ = some (.int .u8 ((rd_T40 y597 x41_2).f2)) := hcc212 2 _ rfl
                     have hx212_3 : World.cell? _ ⟨go208, (x41_2 : Int).toNat * 5 + 3, none⟩ = some (.int .i16 ((rd_T40 y597 x41_2).f3)) := hcc212 3 _ rfl
                     have hx212_4 : World.cell? _ ⟨go208, (x41_2 : Int).toNat * 5 + 4, none⟩ = some (.int .i32 ((rd_T40 y597 x41_2).f4)) := hcc212 4 _ rfl
                     have hf212_0 : World.frozen? _ ⟨go208, (x41_2 : Int).toNat * 5, none⟩ = false := hfr212 0
                     have hf212_1 : World.frozen? _ ⟨go208, (x41_2 : Int).toNat * 5 + 1, none⟩ = false := hfr212 1
                     have hf212_2 : World.frozen? _ ⟨go208, (x41_2 : Int).toNat * 5 + 2, none⟩ = false := hfr212 2
                     have hf212_3 : World.frozen? _ ⟨go208, (x41_2 : Int).toNat * 5 + 3, none⟩ = false := hfr212 3
                     have hf212_4 : World.frozen? _ ⟨go208, (x41_2 : Int).toNat * 5 + 4, none⟩ = false := hfr212 4
                     clear hcl212 hcc212 hfr212 hM212
                     replace p212 := eq_true p212
                     replace q212 := eq_true q212
                     obtain ⟨ce228, hcl228, hM228, hcc228, hfr228⟩ := Kd.R_elem HO_558001.out z40 (x41_2 : Int) (of_decide_eq_true (by first | (with_reducible assumption) | assumption)) (by have h_ : (x41_2 : Int) < ((x558001_2.length : Int) : Int) := of_decide_eq_true (by first | (with_reducible assumption) | assumption); first | exact h_ | (have e_ := (Kd.R_reads' HO_558001.out).1; omega) | simpa using h_)
                     obtain rfl := k40_openM hM228
                     have HP228 := (Kd.R_seg HO_558001.out (x41_2 : Int) (of_decide_eq_true (by first | (with_reducible assumption) | assumption)) (by have h_ : (x41_2 : Int) < ((x558001_2.length : Int) : Int) := of_decide_eq_true (by first | (with_reducible assumption) | assumption); first | exact h_ | (have e_ := (Kd.R_reads' HO_558001.out).1; omega) | simpa using h_) (seg := [.int .u8 t598, .int .u8 t599, .int .u8 t600, .int .i16 t601, .int .i32 t602]) (j := 0) hcl228 hcc228 (show 5 ≤ 5 from by decide) (x' := (⟨t598, t599, t600, t601, t602⟩ : S40)) (k40_mkM _ _ _ (⟨t598, t599, t600, t601, t602⟩ : S40) ) (fun _ hk => hk)).1
                     rw [← Ny603.out] at HP228
                     have HQ228 := Aside0.mk HP228
                     clear hcl228 hcc228 hfr228 hM228 HP228
                     refine hK.out _ _ ⟨(blk_cell BK557.out 0).trans rfl, (blk_cell BK557.out 1).trans rfl⟩ (fun hHeld => ?_)
                     clear hK K
                     refine norm_ (a' := ?_) ?_ ?_
                     rotate_left
                     ·show Act.put _ (some 108) _ = _
                      simp only [Act.put, List.setIfInBounds_toArray, List.set_cons_zero, List.set_cons_succ, i64_w, i32_w]
                      rfl
                     refine pure_ (i := 4) (N := some 109) (v := ?_) (a' := ?_) #[true, true, true, true, true, false] rfl rfl (by kernel_rfl) (fun _ _ _ h => h) (Or.inl ⟨by rfl, ?_⟩) ?_ ?_
                     rotate_left
                     ·intro w'
                      go_simp
                      with_reducible rfl
                     rotate_left
                     ·simp only [Act.put, List.setIfInBounds_toArray, List.set_cons_zero, List.set_cons_succ, i64_w, i32_w]
                      rfl
                     refine last_ (i := 5) (N := none) #[true, true, true, true, true, true] rfl rfl (by kernel_rfl) (by decide) (fun K hK => ?_)
                     refine skip_ (w1 := ?_) (by rfl) rfl ?_ ?_
                     rotate_left
                     ·go_simp
                      rfl
                     refine hK.out _ _ ?_
                     clear hK K
                     refine done_ (by kernel_rfl) ?_
                     try go_wp2
                     go_roundg kj34
                     case measure => have := HJ3.out; have := HK2.out; have := HJ34.out; omega
                     case rel => exact ⟨(false), (x41_2), (wrap64 (x41_2 + 1)), (y603), (.slice (some ⟨go208, 0, none⟩) x558001_2.length co208), eq_now, eq_now, eq_now, H', ⟨by have := HJ3.out; have := HK2.out; have := HJ34.out; omega⟩, ⟨by (with_reducible repeat (first | apply Kd.R_alloc | apply Kd.R_drewN | apply Kd.R_drew)); exact Kd.R_mono (Kd.R_far (p := ⟨go208, (x41_2 : Int).toNat * 5 + 4, none⟩) (Kd.R_far (p := ⟨go208, (x41_2 : Int).toNat * 5 + 3, none⟩) (Kd.R_far (p := ⟨go208, (x41_2 : Int).toNat * 5 + 2, none⟩) (Kd.R_far (p := ⟨go208, (x41_2 : Int).toNat * 5 + 1, none⟩) (Kd.R_far (p := ⟨go208, (x41_2 : Int).toNat * 5, none⟩) (Kd.R_types HO_4.out GH208.out (by decide)) (fun _ hk => hk.2) (.int .u8 t598)) (fun _ hk => hk.2) (.int .u8 t599)) (fun _ hk => hk.2) (.int .u8 t600)) (fun _ hk => hk.2) (.int .i16 t601)) (fun _ hk => hk.2) (.int .i32 t602)) (fun _ hk => trivial)⟩, ⟨by (with_reducible repeat (first | apply Kd.R_alloc | apply Kd.R_drewN | apply Kd.R_drew)); exact Kd.R_mono (Kd.R_far (p := ⟨go208, (x41_2 : Int).toNat * 5 + 4, none⟩) (Kd.R_far (p := ⟨go208, (x41_2 : Int).toNat * 5 + 3, none⟩) (Kd.R_far (p := ⟨go208, (x41_2 : Int).toNat * 5 + 2, none⟩) (Kd.R_far (p := ⟨go208, (x41_2 : Int).toNat * 5 + 1, none⟩) (Kd.R_far (p := ⟨go208, (x41_2 : Int).toNat * 5, none⟩) (Kd.R_types HO_558000.out GH208.out (by decide)) (fun _ hk => hk.2) (.int .u8 t598)) (fun _ hk => hk.2) (.int .u8 t599)) (fun _ hk => hk.2) (.int .u8 t600)) (fun _ hk => hk.2) (.int .i16 t601)) (fun _ hk => hk.2) (.int .i32 t602)) (fun _ hk => trivial)⟩, ⟨by (with_reducible repeat (first | apply Kd.R_alloc | apply Kd.R_drewN | apply Kd.R_drew)); exact Kd.R_mono HQ228.out (fun _ hk => trivial)⟩, ⟨by (with_reducible repeat (first | refine blk_drewN ?_ _ | refine blk_drew ?_ | refine blk_alloc ?_ _)); refine blk_far ?_ (by have h_ := Kd.R_ne HO_558001.out BK548.out (by decide); intro e_; exact h_ (by rw [e_]; rfl)) _; (with_reducible repeat (first | refine blk_drewN ?_ _ | refine blk_drew ?_ | refine blk_alloc ?_ _)); refine blk_far ?_ (by have h_ := Kd.R_ne HO_558001.out BK548.out (by decide); intro e_; exact h_ (by rw [e_]; rfl)) _; (with_reducible repeat (first | refine blk_drewN ?_ _ | refine blk_drew ?_ | refine blk_alloc ?_ _)); refine blk_far ?_ (by have h_ := Kd.R_ne HO_558001.out BK548.out (by decide); intro e_; exact h_ (by rw [e_]; rfl)) _; (with_reducible repeat (first | refine blk_drewN ?_ _ | refine blk_drew ?_ | refine blk_alloc ?_ _)); refine blk_far ?_ (by have h_ := Kd.R_ne HO_558001.out BK548.out (by decide); intro e_; exact h_ (by rw [e_]; rfl)) _; (with_reducible repeat (first | refine blk_drewN ?_ _ | refine blk_drew ?_ | refine blk_alloc ?_ _)); refine blk_far ?_ (by have h_ := Kd.R_ne HO_558001.out BK548.out (by decide); intro e_; exact h_ (by rw [e_]; rfl)) _; (with_reducible repeat (first | refine blk_drewN ?_ _ | refine blk_drew ?_ | refine blk_alloc ?_ _)); exact BK548.out⟩, ⟨by (with_reducible repeat (first | refine blk_drewN ?_ _ | refine blk_drew ?_ | refine blk_alloc ?_ _)); refine blk_far ?_ (by have h_ := Kd.R_ne HO_558001.out BK557.out (by decide); intro e_; exact h_ (by rw [e_]; rfl)) _; (with_reducible repeat (first | refine blk_drewN ?_ _ | refine blk_drew ?_ | refine blk_alloc ?_ _)); refine blk_far ?_ (by have h_ := Kd.R_ne HO_558001.out BK557.out (by decide); intro e_; exact h_ (by rw [e_]; rfl)) _; (with_reducible repeat (first | refine blk_drewN ?_ _ | refine blk_drew ?_ | refine blk_alloc ?_ _)); refine blk_far ?_ (by have h_ := Kd.R_ne HO_558001.out BK557.out (by decide); intro e_; exact h_ (by rw [e_]; rfl)) _; (with_reducible repeat (first | refine blk_drewN ?_ _ | refine blk_drew ?_ | refine blk_alloc ?_ _)); refine blk_far ?_ (by have h_ := Kd.R_ne HO_558001.out BK557.out (by decide); intro e_; exact h_ (by rw [e_]; rfl)) _; (with_reducible repeat (first | refine blk_drewN ?_ _ | refine blk_drew ?_ | refine blk_alloc ?_ _)); refine blk_far ?_ (by have h_ := Kd.R_ne HO_558001.out BK557.out (by decide); intro e_; exact h_ (by rw [e_]; rfl)) _; (with_reducible repeat (first | refine blk_drewN ?_ _ | refine blk_drew ?_ | refine blk_alloc ?_ _)); exact BK557.out⟩, ⟨by repeat (first | (with_reducible first | exact HB.out | apply below_alloc | apply pw_below_drewN | apply below_drew1 | refine below_set ?_ GB208.out | refine below_set ?_ GB208.out | refine below_set ?_ GB208.out | refine below_set ?_ GB208.out | refine below_set ?_ GB208.out | refine below_set ?_ GE548.out | refine below_set ?_ GE557.out | refine below_set ?_ GE565.out | refine below_set ?_ GE573.out) | exact HB.out)⟩⟩
                    ·rw [if_neg c210] at H
                     have c210b0 : (x41_2 == (wrap64 ((l0_1.length : Int) - 1))) = false := beq_eq_false_iff_ne.mpr c210
                     have c210b1 : (x41_2 != (wrap64 ((l0_1.length : Int) - 1))) = true := bne_iff_ne.mpr c210
                     have H' := Aside0.mk H
                     clear H
                     have hnb229 := NB565_548.out
                     have hnc229 := NB548_565.out
                     have hnb230 := NB565_557.out
                     have hnc230 := NB557_565.out
                     have hnb231 := NB565_573.out
                     have hnc231 := NB573_565.out
                     have hcz232 := blk_all5 BK565.out
                     go_wp2_with (first | ((with_reducible refine gate_callee (f := 19) rfl ?_); refine sh_call (some 71) Tryd.func19 #[.int .i64 x41_2, .agg #[.int .u8 ((rd_T40 l0_1 x41_2).f0), .int .u8 ((rd_T40 l0_1 x41_2).f1), .int .u8 ((rd_T40 l0_1 x41_2).f2), .int .i16 ((rd_T40 l0_1 x41_2).f3), .int .i32 ((rd_T40 l0_1 x41_2).f4)]] ?_; (with_reducible refine (shape_Target.calls x41_2 ((rd_T40 l0_1 x41_2).f0) ((rd_T40 l0_1 x41_2).f1) ((rd_T40 l0_1 x41_2).f2) ((rd_T40 l0_1 x41_2).f3) ((rd_T40 l0_1 x41_2).f4) t574 _ A57.out).mono ?_); rintro e w233 ⟨rfl, hb⟩; refine ⟨_, rfl, ?_⟩; replace HO_4 := Aside0.mk (Kd.R_below (by (with_reducible repeat (first | apply Kd.R_alloc | apply Kd.R_drewN | apply Kd.R_drew)); exact HO_4.out) hb); replace HO_558000 := Aside0.mk (Kd.R_below (by (with_reducible repeat (first | apply Kd.R_alloc | apply Kd.R_drewN | apply Kd.R_drew)); exact HO_558000.out) hb); replace HO_558001 := Aside0.mk (Kd.R_below (by (with_reducible repeat (first | apply Kd.R_alloc | apply Kd.R_drewN | apply Kd.R_drew)); exact HO_558001.out) hb); replace BK548 := sh_k BK548 hb; replace BK557 := sh_k BK557 hb; replace BK565 := sh_k BK565 hb; replace BK573 := sh_k BK573 hb; replace HB := sh_b (w := w) hb; (try clear hb); (try clear hb2); (try clear hk); (try clear hi); have hnb234 := NB557_548.out; have hnc234 := NB548_557.out; have hnb235 := NB557_573.out; have hnc235 := NB573_557.out; have hcz236 := blk_all2 BK557.out; have p208 : 0 ≤ (x41_2 : Int) := of_decide_eq_true (by first | (with_reducible assumption) | assumption); have q208 : (x41_2 : Int) < ((x558001_2.length : Int) : Int) := of_decide_eq_true (by first | (with_reducible assumption) | assumption); obtain ⟨go208, co208, eo208, gb208, gl208, cl208, HG208⟩ := Kd.R_form HO_558001.out (by omega); (first | cases eo208 | (injection eo208 with ea_ en_ ec_; (first | subst ea_ | (injection ea_ with ea_; subst ea_)); subst ec_; clear en_)); have GB208 := Aside0.mk gb208; have GG208 := Aside0.mk HG208; clear gb208 gl208 HG208; obtain ⟨ce208, hcl208, hM208, hcc208, hfr208⟩ := Kd.R_elem HO_558001.out z40 (x41_2 : Int) p208 q208; obtain rfl := k40_openM hM208; have hx208_0 : w233.cell? ⟨go208, (x41_2 : Int).toNat * 5, none⟩ = some (.int .u8 ((rd_T40 x558001_2 x41_2).f0)) := hcc208 0 _ rfl; have hx208_1 : w233.cell? ⟨go208, (x41_2 : Int).toNat * 5 + 1, none⟩ = some (.int .u8 ((rd_T40 x558001_2 x41_2).f1)) := hcc208 1 _ rfl; have hx208_2 : w233.cell? ⟨go208, (x41_2 : Int).toNat * 5 + 2, none⟩ = some (.int .u8 ((rd_T40 x558001_2 x41_2).f2)) := hcc208 2 _ rfl; have hx208_3 : w233.cell? ⟨go208, (x41_2 : Int).toNat * 5 + 3, none⟩ = some (.int .i16 ((rd_T40 x558001_2 x41_2).f3)) := hcc208 3 _ rfl; have hx208_4 : w233.cell? ⟨go208, (x41_2 : Int).toNat * 5 + 4, none⟩ = some (.int .i32 ((rd_T40 x558001_2 x41_2).f4)) := hcc208 4 _ rfl; have hf208_0 : w233.frozen? ⟨go208, (x41_2 : Int).toNat * 5, none⟩ = false := hfr208 0; have hf208_1 : w233.frozen? ⟨go208, (x41_2 : Int).toNat * 5 + 1, none⟩ = false := hfr208 1; have hf208_2 : w233.frozen? ⟨go208, (x41_2 : Int).toNat * 5 + 2, none⟩ = false := hfr208 2; have hf208_3 : w233.frozen? ⟨go208, (x41_2 : Int).toNat * 5 + 3, none⟩ = false := hfr208 3; have hf208_4 : w233.frozen? ⟨go208, (x41_2 : Int).toNat * 5 + 4, none⟩ = false := hfr208 4; clear hcl208 hcc208 hfr208 hM208; replace p208 := eq_true p208; replace q208 := eq_true q208; have HX237 := Aside0.mk (show Kd.R k40 40 w233 w.heap.size (fun k_ => k_ ≠ gb565) (.slice (some ⟨go208, 0, none⟩) x558001_2.length co208) x558001_2 from (by (with_reducible repeat (first | apply Kd.R_alloc | apply Kd.R_drewN | apply Kd.R_drew)); exact HO_558001.out)); obtain ⟨ce237, hcl237, hM237, hcc237, hfr237⟩ := Kd.R_elem HX237.out z40 (x41_2 : Int) (of_decide_eq_true (by first | (with_reducible assumption) | assumption)) (by have h_ : (x41_2 : Int) < ((x558001_2.length : Int) : Int) := of_decide_eq_true (by first | (with_reducible assumption) | assumption); first | exact h_ | (have e_ := (Kd.R_reads' HO_558001.out).1; omega) | simpa using h_); obtain rfl := k40_openM hM237; have HP237 := Kd.R_seg HX237.out (x41_2 : Int) (of_decide_eq_true (by first | (with_reducible assumption) | assumption)) (by have h_ : (x41_2 : Int) < ((x558001_2.length : Int) : Int) := of_decide_eq_true (by first | (with_reducible assumption) | assumption); first | exact h_ | (have e_ := (Kd.R_reads' HO_558001.out).1; omega) | simpa using h_) (seg := [.int .u8 7, .int .u8 0, .int .u8 0, .int .i16 0, .int .i32 0]) (j := 0) hcl237 hcc237 (show 5 ≤ 5 from by decide) (x' := (⟨7, 0, 0, 0, 0⟩ : S40)) (k40_mkM _ _ _ (⟨7, 0, 0, 0, 0⟩ : S40) ) (fun _ hk => hk); have hx237_0 := hcc237 0 _ rfl; (try simp only [show (k40).sz = 5 from rfl, Nat.mul_one, Nat.add_zero] at hx237_0); have hf237_0 := hfr237 0; (try simp only [show (k40).sz = 5 from rfl, Nat.mul_one, Nat.add_zero] at hf237_0); have hx237_1 := hcc237 1 _ rfl; (try simp only [show (k40).sz = 5 from rfl, Nat.mul_one, Nat.add_zero] at hx237_1); have hf237_1 := hfr237 1; (try simp only [show (k40).sz = 5 from rfl, Nat.mul_one, Nat.add_zero] at hf237_1); have hx237_2 := hcc237 2 _ rfl; (try simp only [show (k40).sz = 5 from rfl, Nat.mul_one, Nat.add_zero] at hx237_2); have hf237_2 := hfr237 2; (try simp only [show (k40).sz = 5 from rfl, Nat.mul_one, Nat.add_zero] at hf237_2); have hx237_3 := hcc237 3 _ rfl; (try simp only [show (k40).sz = 5 from rfl, Nat.mul_one, Nat.add_zero] at hx237_3); have hf237_3 := hfr237 3; (try simp only [show (k40).sz = 5 from rfl, Nat.mul_one, Nat.add_zero] at hf237_3); have hx237_4 := hcc237 4 _ rfl; (try simp only [show (k40).sz = 5 from rfl, Nat.mul_one, Nat.add_zero] at hx237_4); have hf237_4 := hfr237 4; (try simp only [show (k40).sz = 5 from rfl, Nat.mul_one, Nat.add_zero] at hf237_4); clear hcl237 hcc237 hfr237 hM237) | ((with_reducible refine gate_store (t := 40) (p := 93) rfl ?_); refine store_event (t := 40) (p := 93) (v := ?vo_w238) (w1 := (((((w233.setCell ⟨go208, (x41_2 : Int).toNat * 5, none⟩ (.int .u8 7)).setCell ⟨go208, (x41_2 : Int).toNat * 5 + 1, none⟩ (.int .u8 0)).setCell ⟨go208, (x41_2 : Int).toNat * 5 + 2, none⟩ (.int .u8 0)).setCell ⟨go208, (x41_2 : Int).toNat * 5 + 3, none⟩ (.int .i16 0)).setCell ⟨go208, (x41_2 : Int).toNat * 5 + 4, none⟩ (.int .i32 0))) ?hg ?ho ?hn ?hr ?_; (case ho => rfl); (case hg => rfl); (case hn => rfl); (case hr => first | (go_simp; done) | (go_simp; rfl)); intro w238 hw; have hg : w233.grownBy w238 (some go208) := (by rw [hw]; exact HP237.2); have hp_ : Kd.R k40 40 w238 w.heap.size (fun k_ => k_ ≠ gb565) (.slice (some ⟨go208, 0, none⟩) x558001_2.length co208) y597 := (by rw [hw, Ny597.out]; exact HP237.1); clear HP237; have n0_ := Aside0.mk (Kd.R_over' (v := (.slice (some ⟨go208, 0, none⟩) x558001_2.length co208)) (by (with_reducible repeat (first | apply Kd.R_alloc | apply Kd.R_drewN | apply Kd.R_drew)); exact HO_4.out) (Kd.R_typed HO_558001.out) (by decide) hg); have n1_ := Aside0.mk (Kd.R_over' (v := (.slice (some ⟨go208, 0, none⟩) x558001_2.length co208)) (by (with_reducible repeat (first | apply Kd.R_alloc | apply Kd.R_drewN | apply Kd.R_drew)); exact HO_558000.out) (Kd.R_typed HO_558001.out) (by decide) hg); have n2_ := Aside0.mk (hp_); have n3_ := Aside0.mk (blk_grown (g := gb548) (o := .cells #[.slice A0_0 l0_0.length c0_0, .slice (some ad564) l0_1.length c0_1] 25 (0, 0)) bk_now hg (Kd.R_ne HO_558001.out BK548.out (by decide))); have n4_ := Aside0.mk (blk_grown (g := gb557) (o := .cells #[.slice Ao20 t551.length co20, .slice (some ⟨go208, 0, none⟩) x558001_2.length co208] 25 (0, 0)) bk_now hg (Kd.R_ne HO_558001.out BK557.out (by decide))); have n5_ := Aside0.mk (blk_grown (g := gb565) (o := .cells #[.int .u8 ((rd_T40 l0_1 x41_2).f0), .int .u8 ((rd_T40 l0_1 x41_2).f1), .int .u8 ((rd_T40 l0_1 x41_2).f2), .int .i16 ((rd_T40 l0_1 x41_2).f3), .int .i32 ((rd_T40 l0_1 x41_2).f4)] 40 (0, 0)) bk_now hg (Kd.R_away HO_558001.out (fun _ hk => hk))); have n6_ := Aside0.mk (blk_grown (g := gb573) (o := .cells #[.int .i64 t567, .int .i64 t568, .int .i64 t569, .bool t570, .bool t571] 45 (0, 0)) bk_now hg (Kd.R_ne HO_558001.out BK573.out (by decide))); have n7_ := Aside0.mk ((by rw [hw]; exact below_set (below_set (below_set (below_set (below_set (HB.out) GB208.out) GB208.out) GB208.out) GB208.out) GB208.out : Below w.heap.size w w238)); clear HO_4; clear HO_558000; clear HO_558001; clear BK548; clear BK557; clear BK565; clear BK573; clear HB; have HO_4 := n0_; have HO_558000 := n1_; have HO_558001 := n2_; have BK548 := n3_; have BK557 := n4_; have BK565 := n5_; have BK573 := n6_; have HB := n7_; clear n0_ n1_ n2_ n3_ n4_ n5_ n6_ n7_; clear hg hw hp_; have hnb239 := NB573_548.out; have hnc239 := NB548_573.out; have hcz240 := blk_all5 BK573.out; have hcz241 := blk_all2 BK548.out))
                     go_roundg kj34
                     case measure => have := HJ3.out; have := HK2.out; have := HJ34.out; omega
                     case rel => exact ⟨(false), (x41_2), (wrap64 (x41_2 + 1)), (y597), (.slice (some ⟨go208, 0, none⟩) x558001_2.length co208), eq_now, eq_now, eq_now, H', ⟨by have := HJ3.out; have := HK2.out; have := HJ34.out; omega⟩, ⟨by (with_reducible repeat (first | apply Kd.R_alloc | apply Kd.R_drewN | apply Kd.R_drew)); exact HO_4.out⟩, ⟨by (with_reducible repeat (first | apply Kd.R_alloc | apply Kd.R_drewN | apply Kd.R_drew)); exact HO_558000.out⟩, ⟨by (with_reducible repeat (first | apply Kd.R_alloc | apply Kd.R_drewN | apply Kd.R_drew)); exact Kd.R_mono HO_558001.out (fun _ hk => trivial)⟩, ⟨bk_now⟩, ⟨bk_now⟩, ⟨b_now⟩⟩
                   ·rw [if_neg c209] at H
                    have c209b0 : (t567 == 7) = false := beq_eq_false_iff_ne.mpr c209
                    have c209b1 : (t567 != 7) = true := bne_iff_ne.mpr c209
                    have H' := Aside0.mk H
                    clear H
                    have hnb242 := NB565_548.out
                    have hnc242 := NB548_565.out
                    have hnb243 := NB565_557.out
                    have hnc243 := NB557_565.out
                    have hnb244 := NB565_573.out
                    have hnc244 := NB573_565.out
                    have hcz245 := blk_all5 BK565.out
                    go_wp2_with (first | ((with_reducible refine gate_callee (f := 19) rfl ?_); refine sh_call (some 71) Tryd.func19 #[.int .i64 x41_2, .agg #[.int .u8 ((rd_T40 l0_1 x41_2).f0), .int .u8 ((rd_T40 l0_1 x41_2).f1), .int .u8 ((rd_T40 l0_1 x41_2).f2), .int .i16 ((rd_T40 l0_1 x41_2).f3), .int .i32 ((rd_T40 l0_1 x41_2).f4)]] ?_; (with_reducible refine (shape_Target.calls x41_2 ((rd_T40 l0_1 x41_2).f0) ((rd_T40 l0_1 x41_2).f1) ((rd_T40 l0_1 x41_2).f2) ((rd_T40 l0_1 x41_2).f3) ((rd_T40 l0_1 x41_2).f4) t574 _ A57.out).mono ?_); rintro e w246 ⟨rfl, hb⟩; refine ⟨_, rfl, ?_⟩; replace HO_4 := Aside0.mk (Kd.R_below (by (with_reducible repeat (first | apply Kd.R_alloc | apply Kd.R_drewN | apply Kd.R_drew)); exact HO_4.out) hb); replace HO_558000 := Aside0.mk (Kd.R_below (by (with_reducible repeat (first | apply Kd.R_alloc | apply Kd.R_drewN | apply Kd.R_drew)); exact HO_558000.out) hb); replace HO_558001 := Aside0.mk (Kd.R_below (by (with_reducible repeat (first | apply Kd.R_alloc | apply Kd.R_drewN | apply Kd.R_drew)); exact HO_558001.out) hb); replace BK548 := sh_k BK548 hb; replace BK557 := sh_k BK557 hb; replace BK565 := sh_k BK565 hb; replace BK573 := sh_k BK573 hb; replace HB := sh_b (w := w) hb; (try clear hb); (try clear hb2); (try clear hk); (try clear hi); have hnb247 := NB557_548.out; have hnc247 := NB548_557.out; have hnb248 := NB557_573.out; have hnc248 := NB573_557.out; have hcz249 := blk_all2 BK557.out; have p208 : 0 ≤ (x41_2 : Int) := of_decide_eq_true (by first | (with_reducible assumption) | assumption); have q208 : (x41_2 : Int) < ((x558001_2.length : Int) : Int) := of_decide_eq_true (by first | (with_reducible assumption) | assumption); obtain ⟨go208, co208, eo208, gb208, gl208, cl208, HG208⟩ := Kd.R_form HO_558001.out (by omega); (first | cases eo208 | (injection eo208 with ea_ en_ ec_; (first | subst ea_ | (injection ea_ with ea_; subst ea_)); subst ec_; clear en_)); have GB208 := Aside0.mk gb208; have GG208 := Aside0.mk HG208; clear gb208 gl208 HG208; obtain ⟨ce208, hcl208, hM208, hcc208, hfr208⟩ := Kd.R_elem HO_558001.out z40 (x41_2 : Int) p208 q208; obtain rfl := k40_openM hM208; have hx208_0 : w246.cell? ⟨go208, (x41_2 : Int).toNat * 5, none⟩ = some (.int .u8 ((rd_T40 x558001_2 x41_2).f0)) := hcc208 0 _ rfl; have hx208_1 : w246.cell? ⟨go208, (x41_2 : Int).toNat * 5 + 1, none⟩ = some (.int .u8 ((rd_T40 x558001_2 x41_2).f1)) := hcc208 1 _ rfl; have hx208_2 : w246.cell? ⟨go208, (x41_2 : Int).toNat * 5 + 2, none⟩ = some (.int .u8 ((rd_T40 x558001_2 x41_2).f2)) := hcc208 2 _ rfl; have hx208_3 : w246.cell? ⟨go208, (x41_2 : Int).toNat * 5 + 3, none⟩ = some (.int .i16 ((rd_T40 x558001_2 x41_2).f3)) := hcc208 3 _ rfl; have hx208_4 : w246.cell? ⟨go208, (x41_2 : Int).toNat * 5 + 4, none⟩ = some (.int .i32 ((rd_T40 x558001_2 x41_2).f4)) := hcc208 4 _ rfl; have hf208_0 : w246.frozen? ⟨go208, (x41_2 : Int).toNat * 5, none⟩ = false := hfr208 0; have hf208_1 : w246.frozen? ⟨go208, (x41_2 : Int).toNat * 5 + 1, none⟩ = false := hfr208 1; have hf208_2 : w246.frozen? ⟨go208, (x41_2 : Int).toNat * 5 + 2, none⟩ = false := hfr208 2; have hf208_3 : w246.frozen? ⟨go208, (x41_2 : Int).toNat * 5 + 3, none⟩ = false := hfr208 3; have hf208_4 : w246.frozen? ⟨go208, (x41_2 : Int).toNat * 5 + 4, none⟩ = false := hfr208 4; clear hcl208 hcc208 hfr208 hM208; replace p208 := eq_true p208; replace q208 := eq_true q208; have HX250 := Aside0.mk (show Kd.R k40 40 w246 w.heap.size (fun k_ => k_ ≠ gb565) (.slice (some ⟨go208, 0, none⟩) x558001_2.length co208) x558001_2 from (by (with_reducible repeat (first | apply Kd.R_alloc | apply Kd.R_drewN | apply Kd.R_drew)); exact HO_558001.out)); obtain ⟨ce250, hcl250, hM250, hcc250, hfr250⟩ := Kd.R_elem HX250.out z40 (x41_2 : Int) (of_decide_eq_true (by first | (with_reducible assumption) | assumption)) (by have h_ : (x41_2 : Int) < ((x558001_2.length : Int) : Int) := of_decide_eq_true (by first | (with_reducible assumption) | assumption); first | exact h_ | (have e_ := (Kd.R_reads' HO_558001.out).1; omega) | simpa using h_); obtain rfl := k40_openM hM250; have HP250 := Kd.R_seg HX250.out (x41_2 : Int) (of_decide_eq_true (by first | (with_reducible assumption) | assumption)) (by have h_ : (x41_2 : Int) < ((x558001_2.length : Int) : Int) := of_decide_eq_true (by first | (with_reducible assumption) | assumption); first | exact h_ | (have e_ := (Kd.R_reads' HO_558001.out).1; omega) | simpa using h_) (seg := [.int .u8 7, .int .u8 0, .int .u8 0, .int .i16 0, .int .i32 0]) (j := 0) hcl250 hcc250 (show 5 ≤ 5 from by decide) (x' := (⟨7, 0, 0, 0, 0⟩ : S40)) (k40_mkM _ _ _ (⟨7, 0, 0, 0, 0⟩ : S40) ) (fun _ hk => hk); have hx250_0 := hcc250 0 _ rfl; (try simp only [show (k40).sz = 5 from rfl, Nat.mul_one, Nat.add_zero] at hx250_0); have hf250_0 := hfr250 0; (try simp only [show (k40).sz = 5 from rfl, Nat.mul_one, Nat.add_zero] at hf250_0); have hx250_1 := hcc250 1 _ rfl; (try simp only [show (k40).sz = 5 from rfl, Nat.mul_one, Nat.add_zero] at hx250_1); have hf250_1 := hfr250 1; (try simp only [show (k40).sz = 5 from rfl, Nat.mul_one, Nat.add_zero] at hf250_1); have hx250_2 := hcc250 2 _ rfl; (try simp only [show (k40).sz = 5 from rfl, Nat.mul_one, Nat.add_zero] at hx250_2); have hf250_2 := hfr250 2; (try simp only [show (k40).sz = 5 from rfl, Nat.mul_one, Nat.add_zero] at hf250_2); have hx250_3 := hcc250 3 _ rfl; (try simp only [show (k40).sz = 5 from rfl, Nat.mul_one, Nat.add_zero] at hx250_3); have hf250_3 := hfr250 3; (try simp only [show (k40).sz = 5 from rfl, Nat.mul_one, Nat.add_zero] at hf250_3); have hx250_4 := hcc250 4 _ rfl; (try simp only [show (k40).sz = 5 from rfl, Nat.mul_one, Nat.add_zero] at hx250_4); have hf250_4 := hfr250 4; (try simp only [show (k40).sz = 5 from rfl, Nat.mul_one, Nat.add_zero] at hf250_4); clear hcl250 hcc250 hfr250 hM250) | ((with_reducible refine gate_store (t := 40) (p := 93) rfl ?_); refine store_event (t := 40) (p := 93) (v := ?vo_w251) (w1 := (((((w246.setCell ⟨go208, (x41_2 : Int).toNat * 5, none⟩ (.int .u8 7)).setCell ⟨go208, (x41_2 : Int).toNat * 5 + 1, none⟩ (.int .u8 0)).setCell ⟨go208, (x41_2 : Int).toNat * 5 + 2, none⟩ (.int .u8 0)).setCell ⟨go208, (x41_2 : Int).toNat * 5 + 3, none⟩ (.int .i16 0)).setCell ⟨go208, (x41_2 : Int).toNat * 5 + 4, none⟩ (.int .i32 0))) ?hg ?ho ?hn ?hr ?_; (case ho => rfl); (case hg => rfl); (case hn => rfl); (case hr => first | (go_simp; done) | (go_simp; rfl)); intro w251 hw; have hg : w246.grownBy w251 (some go208) := (by rw [hw]; exact HP250.2); have hp_ : Kd.R k40 40 w251 w.heap.size (fun k_ => k_ ≠ gb565) (.slice (some ⟨go208, 0, none⟩) x558001_2.length co208) y597 := (by rw [hw, Ny597.out]; exact HP250.1); clear HP250; have n0_ := Aside0.mk (Kd.R_over' (v := (.slice (some ⟨go208, 0, none⟩) x558001_2.length co208)) (by (with_reducible repeat (first | apply Kd.R_alloc | apply Kd.R_drewN | apply Kd.R_drew)); exact HO_4.out) (Kd.R_typed HO_558001.out) (by decide) hg); have n1_ := Aside0.mk (Kd.R_over' (v := (.slice (some ⟨go208, 0, none⟩) x558001_2.length co208)) (by (with_reducible repeat (first | apply Kd.R_alloc | apply Kd.R_drewN | apply Kd.R_drew)); exact HO_558000.out) (Kd.R_typed HO_558001.out) (by decide) hg); have n2_ := Aside0.mk (hp_); have n3_ := Aside0.mk (blk_grown (g := gb548) (o := .cells #[.slice A0_0 l0_0.length c0_0, .slice (some ad564) l0_1.length c0_1] 25 (0, 0)) bk_now hg (Kd.R_ne HO_558001.out BK548.out (by decide))); have n4_ := Aside0.mk (blk_grown (g := gb557) (o := .cells #[.slice Ao20 t551.length co20, .slice (some ⟨go208, 0, none⟩) x558001_2.length co208] 25 (0, 0)) bk_now hg (Kd.R_ne HO_558001.out BK557.out (by decide))); have n5_ := Aside0.mk (blk_grown (g := gb565) (o := .cells #[.int .u8 ((rd_T40 l0_1 x41_2).f0), .int .u8 ((rd_T40 l0_1 x41_2).f1), .int .u8 ((rd_T40 l0_1 x41_2).f2), .int .i16 ((rd_T40 l0_1 x41_2).f3), .int .i32 ((rd_T40 l0_1 x41_2).f4)] 40 (0, 0)) bk_now hg (Kd.R_away HO_558001.out (fun _ hk => hk))); have n6_ := Aside0.mk (blk_grown (g := gb573) (o := .cells #[.int .i64 t567, .int .i64 t568, .int .i64 t569, .bool t570, .bool t571] 45 (0, 0)) bk_now hg (Kd.R_ne HO_558001.out BK573.out (by decide))); have n7_ := Aside0.mk ((by rw [hw]; exact below_set (below_set (below_set (below_set (below_set (HB.out) GB208.out) GB208.out) GB208.out) GB208.out) GB208.out : Below w.heap.size w w251)); clear HO_4; clear HO_558000; clear HO_558001; clear BK548; clear BK557; clear BK565; clear BK573; clear HB; have HO_4 := n0_; have HO_558000 := n1_; have HO_558001 := n2_; have BK548 := n3_; have BK557 := n4_; have BK565 := n5_; have BK573 := n6_; have HB := n7_; clear n0_ n1_ n2_ n3_ n4_ n5_ n6_ n7_; clear hg hw hp_; have hnb252 := NB573_548.out; have hnc252 := NB548_573.out; have hcz253 := blk_all5 BK573.out))
                    go_roundg kj34
                    case measure => have := HJ3.out; have := HK2.out; have := HJ34.out; omega
                    case rel => exact ⟨(false), (x41_2), (wrap64 (x41_2 + 1)), (y597), (.slice (some ⟨go208, 0, none⟩) x558001_2.length co208), eq_now, eq_now, eq_now, H', ⟨by have := HJ3.out; have := HK2.out; have := HJ34.out; omega⟩, ⟨by (with_reducible repeat (first | apply Kd.R_alloc | apply Kd.R_drewN | apply Kd.R_drew)); exact HO_4.out⟩, ⟨by (with_reducible repeat (first | apply Kd.R_alloc | apply Kd.R_drewN | apply Kd.R_drew)); exact HO_558000.out⟩, ⟨by (with_reducible repeat (first | apply Kd.R_alloc | apply Kd.R_drewN | apply Kd.R_drew)); exact Kd.R_mono HO_558001.out (fun _ hk => trivial)⟩, ⟨bk_now⟩, ⟨bk_now⟩, ⟨b_now⟩⟩
                  ·rw [if_neg c207] at H
                   exact absurd H (by simp)
                 ·rw [if_neg c206] at H
                  exact absurd H (by simp)
            ·replace c33 := Bool.eq_false_iff.mpr c33
             subst c33
             replace H := sh_f H
             have H' := Aside0.mk H
             clear H
             have p564 : 0 ≤ (x41_2 : Int) := of_decide_eq_true (by first | (with_reducible assumption) | assumption)
             have q564 : x41_2 < (l0_1.length : Int) := of_decide_eq_true (by first | (with_reducible assumption) | assumption)
             obtain ⟨ad564, e564, hx564_0, hx564_1, hx564_2, hx564_3, hx564_4⟩ := at_T40 HR0_1.out x41_2 p564 q564
             cases e564
             replace hx564_0 := (HB.out.cell (World.block_lt_of_cell? w _ hx564_0)).trans hx564_0
             replace hx564_1 := (HB.out.cell (World.block_lt_of_cell? w _ hx564_1)).trans hx564_1
             replace hx564_2 := (HB.out.cell (World.block_lt_of_cell? w _ hx564_2)).trans hx564_2
             replace hx564_3 := (HB.out.cell (World.block_lt_of_cell? w _ hx564_3)).trans hx564_3
             replace hx564_4 := (HB.out.cell (World.block_lt_of_cell? w _ hx564_4)).trans hx564_4
             replace p564 := eq_true p564
             replace q564 := eq_true q564
             go_wp2_with (first | ((with_reducible refine gate_dst (N := 8) rfl ?_); (try (refine gate_guard (by rfl) ?_; dsimp only)); refine sh_box 8 #[.int .u8 0, .int .u8 0, .int .u8 0, .int .i16 0, .int .i32 0] 40 ?_; intro gb565 hg w254 hbox hb; have GE565 := sh_z (w := w) hg; have NB548_565 := sh_n BK548 hg; have NB557_565 := sh_n BK557 hg; have NB565_548 := sh_s NB548_565; have NB565_557 := sh_s NB557_565; replace HO_4 := Aside0.mk (Kd.R_below (by (with_reducible repeat (first | apply Kd.R_alloc | apply Kd.R_drewN | apply Kd.R_drew)); exact HO_4.out) hb); replace HO_558000 := Aside0.mk (Kd.R_below (by (with_reducible repeat (first | apply Kd.R_alloc | apply Kd.R_drewN | apply Kd.R_drew)); exact HO_558000.out) hb); replace HO_558001 := Aside0.mk (Kd.R_below (Kd.R_elderB (by (with_reducible repeat (first | apply Kd.R_alloc | apply Kd.R_drewN | apply Kd.R_drew)); exact HO_558001.out) gb565 (Nat.le_of_eq hg.symm)) hb); replace BK548 := sh_k BK548 hb; replace BK557 := sh_k BK557 hb; replace HB := sh_b (w := w) hb; have BK565 := Aside0.mk (hbox); clear hb hbox hg; have hnb255 := NB565_548.out; have hnc255 := NB548_565.out; have hnb256 := NB565_557.out; have hnc256 := NB557_565.out; have hcz257 := blk_all5 BK565.out; have p566 : 0 ≤ (x41_2 : Int) := of_decide_eq_true (by first | (with_reducible assumption) | assumption); have q566 : x41_2 < (t558.length : Int) := of_decide_eq_true (by first | (with_reducible assumption) | assumption); obtain ⟨ad566, e566, hx566_0⟩ := Kd.at_bool (Kd.R_reads' HO_4.out).2.2 x41_2 p566 q566; (try rw [← Nbq32.out] at hx566_0); cases e566; have hn566_0 : ad566.block ≠ gb565 := Kd.own_blk (Kd.R_ne HO_4.out BK565.out (by decide)); have hn566_1 : ad566.block ≠ gb565 := Kd.own_blk (Kd.R_ne HO_4.out BK565.out (by decide)); have hn566_2 : ad566.block ≠ gb565 := Kd.own_blk (Kd.R_ne HO_4.out BK565.out (by decide)); have hn566_3 : ad566.block ≠ gb565 := Kd.own_blk (Kd.R_ne HO_4.out BK565.out (by decide)); have hn566_4 : ad566.block ≠ gb565 := Kd.own_blk (Kd.R_ne HO_4.out BK565.out (by decide)); replace hx566_0 := (cell_far (p := ⟨gb565, 0, none⟩) (by first | (rw [add_block]; exact hn566_0) | (show (Addr.add _ _).block ≠ _; rw [add_block]; exact hn566_0) | exact hn566_0) (.int .u8 ((rd_T40 l0_1 x41_2).f0))).trans hx566_0; replace hx566_0 := (cell_far (p := ⟨gb565, 1, none⟩) (by first | (rw [add_block]; exact hn566_1) | (show (Addr.add _ _).block ≠ _; rw [add_block]; exact hn566_1) | exact hn566_1) (.int .u8 ((rd_T40 l0_1 x41_2).f1))).trans hx566_0; replace hx566_0 := (cell_far (p := ⟨gb565, 2, none⟩) (by first | (rw [add_block]; exact hn566_2) | (show (Addr.add _ _).block ≠ _; rw [add_block]; exact hn566_2) | exact hn566_2) (.int .u8 ((rd_T40 l0_1 x41_2).f2))).trans hx566_0; replace hx566_0 := (cell_far (p := ⟨gb565, 3, none⟩) (by first | (rw [add_block]; exact hn566_3) | (show (Addr.add _ _).block ≠ _; rw [add_block]; exact hn566_3) | exact hn566_3) (.int .i16 ((rd_T40 l0_1 x41_2).f3))).trans hx566_0; replace hx566_0 := (cell_far (p := ⟨gb565, 4, none⟩) (by first | (rw [add_block]; exact hn566_4) | (show (Addr.add _ _).block ≠ _; rw [add_block]; exact hn566_4) | exact hn566_4) (.int .i32 ((rd_T40 l0_1 x41_2).f4))).trans hx566_0; clear hn566_0; clear hn566_1; clear hn566_2; clear hn566_3; clear hn566_4; replace p566 := eq_true p566; replace q566 := eq_true q566))
             go_roundg k2
             case measure => have := HJ3.out; have := HK2.out; omega
             case rel => exact ⟨(x5_2), (x6_2), (wrap64 (x41_2 + 1)), (x558001_2), (u558001), eq_now, eq_now, eq_now, H', ⟨by have := HJ3.out; have := HK2.out; omega⟩, ⟨by (with_reducible repeat (first | apply Kd.R_alloc | apply Kd.R_drewN | apply Kd.R_drew)); exact Kd.R_mono (Kd.R_far (p := ⟨gb565, 4, none⟩) (Kd.R_far (p := ⟨gb565, 3, none⟩) (Kd.R_far (p := ⟨gb565, 2, none⟩) (Kd.R_far (p := ⟨gb565, 1, none⟩) (Kd.R_far (p := ⟨gb565, 0, none⟩) (Kd.R_types HO_4.out BK565.out (by decide)) (fun _ hk => hk.2) (.int .u8 ((rd_T40 l0_1 x41_2).f0))) (fun _ hk => hk.2) (.int .u8 ((rd_T40 l0_1 x41_2).f1))) (fun _ hk => hk.2) (.int .u8 ((rd_T40 l0_1 x41_2).f2))) (fun _ hk => hk.2) (.int .i16 ((rd_T40 l0_1 x41_2).f3))) (fun _ hk => hk.2) (.int .i32 ((rd_T40 l0_1 x41_2).f4))) (fun _ hk => trivial)⟩, ⟨by (with_reducible repeat (first | apply Kd.R_alloc | apply Kd.R_drewN | apply Kd.R_drew)); exact Kd.R_mono (Kd.R_far (p := ⟨gb565, 4, none⟩) (Kd.R_far (p := ⟨gb565, 3, none⟩) (Kd.R_far (p := ⟨gb565, 2, none⟩) (Kd.R_far (p := ⟨gb565, 1, none⟩) (Kd.R_far (p := ⟨gb565, 0, none⟩) (Kd.R_types HO_558000.out BK565.out (by decide)) (fun _ hk => hk.2) (.int .u8 ((rd_T40 l0_1 x41_2).f0))) (fun _ hk => hk.2) (.int .u8 ((rd_T40 l0_1 x41_2).f1))) (fun _ hk => hk.2) (.int .u8 ((rd_T40 l0_1 x41_2).f2))) (fun _ hk => hk.2) (.int .i16 ((rd_T40 l0_1 x41_2).f3))) (fun _ hk => hk.2) (.int .i32 ((rd_T40 l0_1 x41_2).f4))) (fun _ hk => trivial)⟩, ⟨by (with_reducible repeat (first | apply Kd.R_alloc | apply Kd.R_drewN | apply Kd.R_drew)); exact Kd.R_mono (Kd.R_far (p := ⟨gb565, 4, none⟩) (Kd.R_far (p := ⟨gb565, 3, none⟩) (Kd.R_far (p := ⟨gb565, 2, none⟩) (Kd.R_far (p := ⟨gb565, 1, none⟩) (Kd.R_far (p := ⟨gb565, 0, none⟩) (Kd.R_mono HO_558001.out (fun k_ hk => (⟨hk, hk.2⟩ : _ ∧ k_ ≠ gb565))) (fun _ hk => hk.2) (.int .u8 ((rd_T40 l0_1 x41_2).f0))) (fun _ hk => hk.2) (.int .u8 ((rd_T40 l0_1 x41_2).f1))) (fun _ hk => hk.2) (.int .u8 ((rd_T40 l0_1 x41_2).f2))) (fun _ hk => hk.2) (.int .i16 ((rd_T40 l0_1 x41_2).f3))) (fun _ hk => hk.2) (.int .i32 ((rd_T40 l0_1 x41_2).f4))) (fun _ hk => trivial)⟩, ⟨bk_now⟩, ⟨bk_now⟩, ⟨b_now⟩⟩
           ·rw [if_neg c31] at H
            exact absurd H (by simp)
          ·rw [if_neg c30] at H
           exact absurd H (by simp)
         ·rw [if_neg c29] at H
          exact absurd H (by simp)
        ·rw [if_neg c28] at H
         have c28b0 : decide (x41_2 < (l0_1.length : Int)) = false := decide_eq_false c28
         clear c28
         by_cases c258 : 0 ≤ x6_2
         ·rw [if_pos c258] at H
          have c258b0 : decide (0 ≤ x6_2) = true := decide_eq_true c258
          clear c258
          by_cases c259 : x6_2 < (t558.length : Int)
          ·rw [if_pos c259] at H
           have c259b0 : decide (x6_2 < (t558.length : Int)) = true := decide_eq_true c259
           clear c259
           obtain ⟨bq260, hbq260⟩ : ∃ b_ : Bool, b_ = (rdOf false t558 x6_2) := ⟨_, rfl⟩
           replace H : (if bq260 = true then ((stockadelaw04_right.f l0_0 l0_1).bind fun t562 => ((stockadelaw04_right.f t551 x558001_2).bind fun t563 => (if t563 = true then (some (t562 == x5_2)) else (some (t562 == false))))) else (some false)) = some r := by rw [← hbq260] at H; exact H
           have Nbq260 := Aside0.mk hbq260
           clear hbq260
           by_cases c261 : bq260 = true
           ·subst c261
            replace H := sh_t H
            replace H := Option.bind_eq_some_iff.mp H; obtain ⟨t562, A2620, H⟩ := H; try dsimp only at H
            have A262 := Aside0.mk A2620
            clear A2620
            replace H := Option.bind_eq_some_iff.mp H; obtain ⟨t563, A2630, H⟩ := H; try dsimp only at H
            have A263 := Aside0.mk A2630
            clear A2630
            by_cases c264 : t563 = true
            ·subst c264
             replace H := sh_t H
             obtain rfl := Option.some.inj H
             try go_wp2
             have n0_ := Aside0.mk (Kd.R_drew HO_4.out)
             have n1_ := Aside0.mk (Kd.R_drew HO_558000.out)
             have n2_ := Aside0.mk (Kd.R_drew HO_558001.out)
             have n3_ := Aside0.mk (blk_drew BK548.out)
             have n4_ := Aside0.mk (blk_drew BK557.out)
             have n5_ := Aside0.mk (below_drew1 HB.out)
             clear HO_4
             clear HO_558000
             clear HO_558001
             clear BK548
             clear BK557
             clear HB
             have HO_4 := n0_
             have HO_558000 := n1_
             have HO_558001 := n2_
             have BK548 := n3_
             have BK557 := n4_
             have HB := n5_
             clear n0_ n1_ n2_ n3_ n4_ n5_
             have p561 : 0 ≤ (x6_2 : Int) := of_decide_eq_true (by first | (with_reducible assumption) | assumption)
             have q561 : x6_2 < (t558.length : Int) := of_decide_eq_true (by first | (with_reducible assumption) | assumption)
             obtain ⟨ad561, e561, hx561_0⟩ := Kd.at_bool (Kd.R_reads' HO_4.out).2.2 x6_2 p561 q561
             (try rw [← Nbq260.out] at hx561_0)
             cases e561
             replace p561 := eq_true p561
             replace q561 := eq_true q561
             refine start_ (n := 15) (S := fun w' => w'.cell? ⟨gb548, 0, none⟩ = some (.slice A0_0 l0_0.length c0_0) ∧ w'.cell? ⟨gb548, 1, none⟩ = some (.slice A0_1 l0_1.length c0_1) ∧ w'.cell? ⟨gb557, 0, none⟩ = some (.slice Ao20 t551.length co20) ∧ w'.cell? ⟨gb557, 1, none⟩ = some (u558001) ∧ w'.cell? (ad561.add (x6_2).toNat) = some (.bool true)) (ds := []) #[false, false, false, false, false, false, false, false, false, false, false, false, false, false, false] (by kernel_rfl) rfl rfl ⟨(blk_cell BK548.out 0).trans rfl, (blk_cell BK548.out 1).trans rfl, (blk_cell BK557.out 0).trans rfl, (blk_cell BK557.out 1).trans rfl, hx561_0⟩ (fun hHeld => ?_); refine with_tabW stockadelaw04_ShapeJumps.tab23 stockadelaw04_ShapeJumps.bits23 (fun HT_ HW_ => ?_)
             generalize wr.drew = w265 at HO_4 HO_558000 HO_558001 BK548 BK557 HB hx561_0 hHeld ⊢
             refine pure_ (i := 0) (N := some 111) (v := ?_) (a' := ?_) #[true, false, false, false, false, false, false, false, false, false, false, false, false, false, false] rfl rfl (any_of HT_.out (by kernel_rfl)) (fun _ _ _ h => h) (Or.inl ⟨by rfl, ?_⟩) ?_ ?_
             rotate_left
             ·intro w'
              go_simp
              with_reducible rfl
             rotate_left
             ·simp only [Act.put, List.setIfInBounds_toArray, List.set_cons_zero, List.set_cons_succ, i64_w, i32_w]
              rfl
             refine pure_ (i := 1) (N := some 112) (v := ?_) (a' := ?_) #[true, true, false, false, false, false, false, false, false, false, false, false, false, false, false] rfl rfl (any_of HT_.out (by kernel_rfl)) (fun _ _ _ h => h) (Or.inl ⟨by rfl, ?_⟩) ?_ ?_
             rotate_left
             ·intro w'
              go_simp
              with_reducible rfl
             rotate_left
             ·simp only [Act.put, List.setIfInBounds_toArray, List.set_cons_zero, List.set_cons_succ, i64_w, i32_w]
              rfl
             refine pure_ (i := 2) (N := some 113) (v := ?_) (a' := ?_) #[true, true, true, false, false, false, false, false, false, false, false, false, false, false, false] rfl rfl (any_of HT_.out (by kernel_rfl)) (fun _ _ _ h => h) (Or.inl ⟨by rfl, ?_⟩) ?_ ?_
             rotate_left
             ·intro w'
              go_simp
              with_reducible rfl
             rotate_left
             ·simp only [Act.put, List.setIfInBounds_toArray, List.set_cons_zero, List.set_cons_succ, i64_w, i32_w]
              rfl
             refine take_ (i := 3) (N := some 114) (v := ?_) (a' := ?_) #[true, true, true, true, false, false, false, false, false, false, false, false, false, false, false] rfl rfl (take_ofW HT_.out HW_.out (by kernel_rfl)) (fun _ _ _ h => h) (Or.inl ⟨by rfl, ?_⟩) hHeld ?_ ?_
             rotate_left
             ·rintro w' ⟨s0, s1, s2, s3, s4⟩
              go_simp
              with_reducible rfl
             rotate_left
             ·simp only [Act.put, List.setIfInBounds_toArray, List.set_cons_zero, List.set_cons_succ, i64_w, i32_w]
              rfl
             refine pure_ (i := 4) (N := some 115) (v := ?_) (a' := ?_) #[true, true, true, true, true, false, false, false, false, false, false, false, false, false, false] rfl rfl (any_of HT_.out (by kernel_rfl)) (fun _ _ _ h => h) (Or.inl ⟨by rfl, ?_⟩) ?_ ?_
             rotate_left
             ·intro w'
              go_simp
              with_reducible rfl
             rotate_left
             ·simp only [Act.put, List.setIfInBounds_toArray, List.set_cons_zero, List.set_cons_succ, i64_w, i32_w]
              rfl
             refine take_ (i := 5) (N := some 116) (v := ?_) (a' := ?_) #[true, true, true, true, true, true, false, false, false, false, false, false, false, false, false] rfl rfl (take_ofW HT_.out HW_.out (by kernel_rfl)) (fun _ _ _ h => h) (Or.inl ⟨by rfl, ?_⟩) hHeld ?_ ?_
             rotate_left
             ·rintro w' ⟨s0, s1, s2, s3, s4⟩
              go_simp
              with_reducible rfl
             rotate_left
             ·simp only [Act.put, List.setIfInBounds_toArray, List.set_cons_zero, List.set_cons_succ, i64_w, i32_w]
              rfl
             refine take_ (i := 7) (N := some 118) (v := ?_) (a' := ?_) #[true, true, true, true, true, true, false, true, false, false, false, false, false, false, false] rfl rfl (take_ofW HT_.out HW_.out (by kernel_rfl)) (fun _ _ _ h => h) (Or.inl ⟨by rfl, ?_⟩) hHeld ?_ ?_
             rotate_left
             ·rintro w' ⟨s0, s1, s2, s3, s4⟩
              go_simp
              with_reducible rfl
             rotate_left
             ·simp only [Act.put, List.setIfInBounds_toArray, List.set_cons_zero, List.set_cons_succ, i64_w, i32_w]
              rfl
             refine one_ (i := 6) (N := some 117) #[true, true, true, true, true, true, true, true, false, false, false, false, false, false, false] rfl rfl (one_of HT_.out (by kernel_rfl)) (by decide) (fun K hK => ?_)
             refine goes_ Tryd.func21 (by kernel_rfl) rfl #[.agg #[.slice A0_0 l0_0.length c0_0, .slice A0_1 l0_1.length c0_1]] (by rfl) rfl rfl (by (try simp only [List.map_toArray, List.map_cons, List.map_nil]); first | done | rfl | (simp only [List.length_drop, List.length_take]; rfl)) ?_
             with_reducible refine (stockadelaw04_right.calls _ _ l0_0 _ _ l0_1 t562 _ ?side1 ?side2 ?side3 ?side4 ?side5 A262.out).mono ?_
             (case side1 => repeat (first | exact (Kd.C_below HR0_0.out HB.out) | (with_reducible refine Kd.C_alloc ?_ _) | (with_reducible refine Kd.C_drewN ?_ _) | (with_reducible refine Kd.C_drew ?_)))
             (case side2 => exact HC0_0.out)
             (case side3 => repeat (first | exact (Kd.C_below HR0_1.out HB.out) | (with_reducible refine Kd.C_alloc ?_ _) | (with_reducible refine Kd.C_drewN ?_ _) | (with_reducible refine Kd.C_drew ?_)))
             (case side4 => exact HC0_1.out)
             (case side5 => repeat (first | exact (Kd.C_below HRG0.out HB.out) | (with_reducible refine Kd.C_alloc ?_ _) | (with_reducible refine Kd.C_drewN ?_ _) | (with_reducible refine Kd.C_drew ?_)))
             rintro e w266 ⟨rfl, hb⟩
             have HS4_ := (hb.cell (World.block_lt_of_cell? _ _ (hHeld.2.2.2.2))).trans (hHeld.2.2.2.2)
             refine ⟨_, rfl, ?_⟩
             have n0_ := Aside0.mk (Kd.R_below (by (with_reducible repeat (first | apply Kd.R_alloc | apply Kd.R_drewN | apply Kd.R_drew)); exact HO_4.out) hb)
             have n1_ := Aside0.mk (Kd.R_below (by (with_reducible repeat (first | apply Kd.R_alloc | apply Kd.R_drewN | apply Kd.R_drew)); exact HO_558000.out) hb)
             have n2_ := Aside0.mk (Kd.R_below (by (with_reducible repeat (first | apply Kd.R_alloc | apply Kd.R_drewN | apply Kd.R_drew)); exact HO_558001.out) hb)
             have n3_ := Aside0.mk (blk_below (g := gb548) (o := .cells #[.slice A0_0 l0_0.length c0_0, .slice A0_1 l0_1.length c0_1] 25 (0, 0)) bk_now hb)
             have n4_ := Aside0.mk (blk_below (g := gb557) (o := .cells #[.slice Ao20 t551.length co20, u558001] 25 (0, 0)) bk_now hb)
             have n5_ := Aside0.mk (below_step b_now hb)
             clear HO_4
             clear HO_558000
             clear HO_558001
             clear BK548
             clear BK557
             clear HB
             have HO_4 := n0_
             have HO_558000 := n1_
             have HO_558001 := n2_
             have BK548 := n3_
             have BK557 := n4_
             have HB := n5_
             clear n0_ n1_ n2_ n3_ n4_ n5_
             (try clear hb)
             (try clear hb2)
             (try clear hk)
             (try clear hi)
             obtain ⟨Ao267, co267, eo267⟩ := Kd.R_slice HO_558001.out
             (first | subst eo267 | (injection eo267 with f1_ f2_ f3_; have f4_ := f1_.symm; have f5_ := f3_.symm; clear f1_ f2_ f3_; subst f4_; subst f5_))
             refine hK.out _ _ ⟨(blk_cell BK548.out 0).trans rfl, (blk_cell BK548.out 1).trans rfl, (blk_cell BK557.out 0).trans rfl, (blk_cell BK557.out 1).trans rfl, HS4_⟩ (fun hHeld => ?_)
             clear hK K
             refine norm_ (a' := ?_) ?_ ?_
             rotate_left
             ·show Act.put _ (some 117) _ = _
              simp only [Act.put, List.setIfInBounds_toArray, List.set_cons_zero, List.set_cons_succ, i64_w, i32_w]
              rfl
             refine one_ (i := 8) (N := some 119) #[true, true, true, true, true, true, true, true, true, false, false, false, false, false, false] rfl rfl (one_of HT_.out (by kernel_rfl)) (by decide) (fun K hK => ?_)
             refine goes_ Tryd.func21 (by kernel_rfl) rfl #[.agg #[.slice Ao20 t551.length co20, .slice Ao267 x558001_2.length co267]] (by rfl) rfl rfl (by (try simp only [List.map_toArray, List.map_cons, List.map_nil]); first | done | rfl | (simp only [List.length_drop, List.length_take]; rfl)) ?_
             with_reducible refine (stockadelaw04_right.calls _ _ t551 _ _ x558001_2 true _ ?side1 ?side2 ?side3 ?side4 ?side5 A263.out).mono ?_
             (case side1 => repeat (first | exact (Kd.R_reads' HO_558000.out).2.2 | (with_reducible refine Kd.C_alloc ?_ _) | (with_reducible refine Kd.C_drewN ?_ _) | (with_reducible refine Kd.C_drew ?_)))
             (case side2 => exact (Kd.R_reads' HO_558000.out).2.1)
             (case side3 => repeat (first | exact (Kd.R_reads' HO_558001.out).2.2 | (with_reducible refine Kd.C_alloc ?_ _) | (with_reducible refine Kd.C_drewN ?_ _) | (with_reducible refine Kd.C_drew ?_)))
             (case side4 => exact (Kd.R_reads' HO_558001.out).2.1)
             (case side5 => repeat (first | exact (Kd.C_below HRG0.out HB.out) | (with_reducible refine Kd.C_alloc ?_ _) | (with_reducible refine Kd.C_drewN ?_ _) | (with_reducible refine Kd.C_drew ?_)))
             rintro e w268 ⟨rfl, hb⟩
             have HS4_ := (hb.cell (World.block_lt_of_cell? _ _ (hHeld.2.2.2.2))).trans (hHeld.2.2.2.2)
             refine ⟨_, rfl, ?_⟩
             have n0_ := Aside0.mk (Kd.R_below (by (with_reducible repeat (first | apply Kd.R_alloc | apply Kd.R_drewN | apply Kd.R_drew)); exact HO_4.out) hb)
             have n1_ := Aside0.mk (Kd.R_below (by (with_reducible repeat (first | apply Kd.R_alloc | apply Kd.R_drewN | apply Kd.R_drew)); exact HO_558000.out) hb)
             have n2_ := Aside0.mk (Kd.R_below (by (with_reducible repeat (first | apply Kd.R_alloc | apply Kd.R_drewN | apply Kd.R_drew)); exact HO_558001.out) hb)
             have n3_ := Aside0.mk (blk_below (g := gb548) (o := .cells #[.slice A0_0 l0_0.length c0_0, .slice A0_1 l0_1.length c0_1] 25 (0, 0)) bk_now hb)
             have n4_ := Aside0.mk (blk_below (g := gb557) (o := .cells #[.slice Ao20 t551.length co20, .slice Ao267 x558001_2.length co267] 25 (0, 0)) bk_now hb)
             have n5_ := Aside0.mk (below_step b_now hb)
             clear HO_4
             clear HO_558000
             clear HO_558001
             clear BK548
             clear BK557
             clear HB
             have HO_4 := n0_
             have HO_558000 := n1_
             have HO_558001 := n2_
             have BK548 := n3_
             have BK557 := n4_
             have HB := n5_
             clear n0_ n1_ n2_ n3_ n4_ n5_
             (try clear hb)
             (try clear hb2)
             (try clear hk)
             (try clear hi)
             refine hK.out _ _ ⟨(blk_cell BK548.out 0).trans rfl, (blk_cell BK548.out 1).trans rfl, (blk_cell BK557.out 0).trans rfl, (blk_cell BK557.out 1).trans rfl, HS4_⟩ (fun hHeld => ?_)
             clear hK K
             refine norm_ (a' := ?_) ?_ ?_
             rotate_left
             ·show Act.put _ (some 119) _ = _
              simp only [Act.put, List.setIfInBounds_toArray, List.set_cons_zero, List.set_cons_succ, i64_w, i32_w]
              rfl
             refine pure_ (i := 9) (N := some 120) (v := ?_) (a' := ?_) #[true, true, true, true, true, true, true, true, true, true, false, false, false, false, false] rfl rfl (any_of HT_.out (by kernel_rfl)) (fun _ _ _ h => h) (Or.inl ⟨by rfl, ?_⟩) ?_ ?_
             rotate_left
             ·intro w'
              go_simp
              with_reducible rfl
             rotate_left
             ·simp only [Act.put, List.setIfInBounds_toArray, List.set_cons_zero, List.set_cons_succ, i64_w, i32_w]
              rfl
             refine pure_ (i := 10) (N := some 121) (v := ?_) (a' := ?_) #[true, true, true, true, true, true, true, true, true, true, true, false, false, false, false] rfl rfl (any_of HT_.out (by kernel_rfl)) (fun _ _ _ h => h) (Or.inl ⟨by rfl, ?_⟩) ?_ ?_
             rotate_left
             ·intro w'
              go_simp
              with_reducible rfl
             rotate_left
             ·simp only [Act.put, List.setIfInBounds_toArray, List.set_cons_zero, List.set_cons_succ, i64_w, i32_w]
              rfl
             refine pure_ (i := 11) (N := some 122) (v := ?_) (a' := ?_) #[true, true, true, true, true, true, true, true, true, true, true, true, false, false, false] rfl rfl (any_of HT_.out (by kernel_rfl)) (fun _ _ _ h => h) (Or.inl ⟨by rfl, ?_⟩) ?_ ?_
             rotate_left
             ·intro w'
              go_simp
              with_reducible rfl
             rotate_left
             ·simp only [Act.put, List.setIfInBounds_toArray, List.set_cons_zero, List.set_cons_succ, i64_w, i32_w]
              rfl
             refine pure_ (i := 12) (N := some 123) (v := ?_) (a' := ?_) #[true, true, true, true, true, true, true, true, true, true, true, true, true, false, false] rfl rfl (any_of HT_.out (by kernel_rfl)) (fun _ _ _ h => h) (Or.inl ⟨by rfl, ?_⟩) ?_ ?_
             rotate_left
             ·intro w'
              go_simp
              with_reducible rfl
             rotate_left
             ·simp only [Act.put, List.setIfInBounds_toArray, List.set_cons_zero, List.set_cons_succ, i64_w, i32_w]
              rfl
             refine pure_ (i := 13) (N := some 124) (v := ?_) (a' := ?_) #[true, true, true, true, true, true, true, true, true, true, true, true, true, true, false] rfl rfl (any_of HT_.out (by kernel_rfl)) (fun _ _ _ h => h) (Or.inl ⟨by rfl, ?_⟩) ?_ ?_
             rotate_left
             ·intro w'
              go_simp
              with_reducible rfl
             rotate_left
             ·simp only [Act.put, List.setIfInBounds_toArray, List.set_cons_zero, List.set_cons_succ, i64_w, i32_w]
              rfl
             refine pure_ (i := 14) (N := some 2) (v := ?_) (a' := ?_) #[true, true, true, true, true, true, true, true, true, true, true, true, true, true, true] rfl rfl (any_of HT_.out (by kernel_rfl)) (fun _ _ _ h => h) (Or.inl ⟨by rfl, ?_⟩) ?_ ?_
             rotate_left
             ·intro w'
              go_simp
              with_reducible rfl
             rotate_left
             ·simp only [Act.put, List.setIfInBounds_toArray, List.set_cons_zero, List.set_cons_succ, i64_w, i32_w]
              rfl
             refine done_ (done_of HT_.out (by kernel_rfl)) ?_
             try go_wp2
             go_ret
             exact ⟨ret_now, b_now⟩
            ·replace c264 := Bool.eq_false_iff.mpr c264
             subst c264
             replace H := sh_f H
             obtain rfl := Option.some.inj H
             try go_wp2
             have n0_ := Aside0.mk (Kd.R_drew HO_4.out)
             have n1_ := Aside0.mk (Kd.R_drew HO_558000.out)
             have n2_ := Aside0.mk (Kd.R_drew HO_558001.out)
             have n3_ := Aside0.mk (blk_drew BK548.out)
             have n4_ := Aside0.mk (blk_drew BK557.out)
             have n5_ := Aside0.mk (below_drew1 HB.out)
             clear HO_4
             clear HO_558000
             clear HO_558001
             clear BK548
             clear BK557
             clear HB
             have HO_4 := n0_
             have HO_558000 := n1_
             have HO_558001 := n2_
             have BK548 := n3_
             have BK557 := n4_
             have HB := n5_
             clear n0_ n1_ n2_ n3_ n4_ n5_
             have p561 : 0 ≤ (x6_2 : Int) := of_decide_eq_true (by first | (with_reducible assumption) | assumption)
             have q561 : x6_2 < (t558.length : Int) := of_decide_eq_true (by first | (with_reducible assumption) | assumption)
             obtain ⟨ad561, e561, hx561_0⟩ := Kd.at_bool (Kd.R_reads' HO_4.out).2.2 x6_2 p561 q561
             (try rw [← Nbq260.out] at hx561_0)
             cases e561
             replace p561 := eq_true p561
             replace q561 := eq_true q561
             refine start_ (n := 15) (S := fun w' => w'.cell? ⟨gb548, 0, none⟩ = some (.slice A0_0 l0_0.length c0_0) ∧ w'.cell? ⟨gb548, 1, none⟩ = some (.slice A0_1 l0_1.length c0_1) ∧ w'.cell? ⟨gb557, 0, none⟩ = some (.slice Ao20 t551.length co20) ∧ w'.cell? ⟨gb557, 1, none⟩ = some (u558001) ∧ w'.cell? (ad561.add (x6_2).toNat) = some (.bool true)) (ds := []) #[false, false, false, false, false, false, false, false, false, false, false, false, false, false, false] (by kernel_rfl) rfl rfl ⟨(blk_cell BK548.out 0).trans rfl, (blk_cell BK548.out 1).trans rfl, (blk_cell BK557.out 0).trans rfl, (blk_cell BK557.out 1).trans rfl, hx561_0⟩ (fun hHeld => ?_); refine with_tabW stockadelaw04_ShapeJumps.tab23 stockadelaw04_ShapeJumps.bits23 (fun HT_ HW_ => ?_)
             generalize wr.drew = w269 at HO_4 HO_558000 HO_558001 BK548 BK557 HB hx561_0 hHeld ⊢
             refine pure_ (i := 0) (N := some 111) (v := ?_) (a' := ?_) #[true, false, false, false, false, false, false, false, false, false, false, false, false, false, false] rfl rfl (any_of HT_.out (by kernel_rfl)) (fun _ _ _ h => h) (Or.inl ⟨by rfl, ?_⟩) ?_ ?_
             rotate_left
             ·intro w'
              go_simp
              with_reducible rfl
             rotate_left
             ·simp only [Act.put, List.setIfInBounds_toArray, List.set_cons_zero, List.set_cons_succ, i64_w, i32_w]
              rfl
             refine pure_ (i := 1) (N := some 112) (v := ?_) (a' := ?_) #[true, true, false, false, false, false, false, false, false, false, false, false, false, false, false] rfl rfl (any_of HT_.out (by kernel_rfl)) (fun _ _ _ h => h) (Or.inl ⟨by rfl, ?_⟩) ?_ ?_
             rotate_left
             ·intro w'
              go_simp
              with_reducible rfl
             rotate_left
             ·simp only [Act.put, List.setIfInBounds_toArray, List.set_cons_zero, List.set_cons_succ, i64_w, i32_w]
              rfl
             refine pure_ (i := 2) (N := some 113) (v := ?_) (a' := ?_) #[true, true, true, false, false, false, false, false, false, false, false, false, false, false, false] rfl rfl (any_of HT_.out (by kernel_rfl)) (fun _ _ _ h => h) (Or.inl ⟨by rfl, ?_⟩) ?_ ?_
             rotate_left
             ·intro w'
              go_simp
              with_reducible rfl
             rotate_left
             ·simp only [Act.put, List.setIfInBounds_toArray, List.set_cons_zero, List.set_cons_succ, i64_w, i32_w]
              rfl
             refine take_ (i := 3) (N := some 114) (v := ?_) (a' := ?_) #[true, true, true, true, false, false, false, false, false, false, false, false, false, false, false] rfl rfl (take_ofW HT_.out HW_.out (by kernel_rfl)) (fun _ _ _ h => h) (Or.inl ⟨by rfl, ?_⟩) hHeld ?_ ?_
             rotate_left
             ·rintro w' ⟨s0, s1, s2, s3, s4⟩
              go_simp
              with_reducible rfl
             rotate_left
             ·simp only [Act.put, List.setIfInBounds_toArray, List.set_cons_zero, List.set_cons_succ, i64_w, i32_w]
              rfl
             refine pure_ (i := 4) (N := some 115) (v := ?_) (a' := ?_) #[true, true, true, true, true, false, false, false, false, false, false, false, false, false, false] rfl rfl (any_of HT_.out (by kernel_rfl)) (fun _ _ _ h => h) (Or.inl ⟨by rfl, ?_⟩) ?_ ?_
             rotate_left
             ·intro w'
              go_simp
              with_reducible rfl
             rotate_left
             ·simp only [Act.put, List.setIfInBounds_toArray, List.set_cons_zero, List.set_cons_succ, i64_w, i32_w]
              rfl
             refine take_ (i := 5) (N := some 116) (v := ?_) (a' := ?_) #[true, true, true, true, true, true, false, false, false, false, false, false, false, false, false] rfl rfl (take_ofW HT_.out HW_.out (by kernel_rfl)) (fun _ _ _ h => h) (Or.inl ⟨by rfl, ?_⟩) hHeld ?_ ?_
             rotate_left
             ·rintro w' ⟨s0, s1, s2, s3, s4⟩
              go_simp
              with_reducible rfl
             rotate_left
             ·simp only [Act.put, List.setIfInBounds_toArray, List.set_cons_zero, List.set_cons_succ, i64_w, i32_w]
              rfl
             refine take_ (i := 7) (N := some 118) (v := ?_) (a' := ?_) #[true, true, true, true, true, true, false, true, false, false, false, false, false, false, false] rfl rfl (take_ofW HT_.out HW_.out (by kernel_rfl)) (fun _ _ _ h => h) (Or.inl ⟨by rfl, ?_⟩) hHeld ?_ ?_
             rotate_left
             ·rintro w' ⟨s0, s1, s2, s3, s4⟩
              go_simp
              with_reducible rfl
             rotate_left
             ·simp only [Act.put, List.setIfInBounds_toArray, List.set_cons_zero, List.set_cons_succ, i64_w, i32_w]
              rfl
             refine one_ (i := 6) (N := some 117) #[true, true, true, true, true, true, true, true, false, false, false, false, false, false, false] rfl rfl (one_of HT_.out (by kernel_rfl)) (by decide) (fun K hK => ?_)
             refine goes_ Tryd.func21 (by kernel_rfl) rfl #[.agg #[.slice A0_0 l0_0.length c0_0, .slice A0_1 l0_1.length c0_1]] (by rfl) rfl rfl (by (try simp only [List.map_toArray, List.map_cons, List.map_nil]); first | done | rfl | (simp only [List.length_drop, List.length_take]; rfl)) ?_
             with_reducible refine (stockadelaw04_right.calls _ _ l0_0 _ _ l0_1 t562 _ ?side1 ?side2 ?side3 ?side4 ?side5 A262.out).mono ?_
             (case side1 => repeat (first | exact (Kd.C_below HR0_0.out HB.out) | (with_reducible refine Kd.C_alloc ?_ _) | (with_reducible refine Kd.C_drewN ?_ _) | (with_reducible refine Kd.C_drew ?_)))
             (case side2 => exact HC0_0.out)
             (case side3 => repeat (first | exact (Kd.C_below HR0_1.out HB.out) | (with_reducible refine Kd.C_alloc ?_ _) | (with_reducible refine Kd.C_drewN ?_ _) | (with_reducible refine Kd.C_drew ?_)))
             (case side4 => exact HC0_1.out)
             (case side5 => repeat (first | exact (Kd.C_below HRG0.out HB.out) | (with_reducible refine Kd.C_alloc ?_ _) | (with_reducible refine Kd.C_drewN ?_ _) | (with_reducible refine Kd.C_drew ?_)))
             rintro e w270 ⟨rfl, hb⟩
             have HS4_ := (hb.cell (World.block_lt_of_cell? _ _ (hHeld.2.2.2.2))).trans (hHeld.2.2.2.2)
             refine ⟨_, rfl, ?_⟩
             have n0_ := Aside0.mk (Kd.R_below (by (with_reducible repeat (first | apply Kd.R_alloc | apply Kd.R_drewN | apply Kd.R_drew)); exact HO_4.out) hb)
             have n1_ := Aside0.mk (Kd.R_below (by (with_reducible repeat (first | apply Kd.R_alloc | apply Kd.R_drewN | apply Kd.R_drew)); exact HO_558000.out) hb)
             have n2_ := Aside0.mk (Kd.R_below (by (with_reducible repeat (first | apply Kd.R_alloc | apply Kd.R_drewN | apply Kd.R_drew)); exact HO_558001.out) hb)
             have n3_ := Aside0.mk (blk_below (g := gb548) (o := .cells #[.slice A0_0 l0_0.length c0_0, .slice A0_1 l0_1.length c0_1] 25 (0, 0)) bk_now hb)
             have n4_ := Aside0.mk (blk_below (g := gb557) (o := .cells #[.slice Ao20 t551.length co20, u558001] 25 (0, 0)) bk_now hb)
             have n5_ := Aside0.mk (below_step b_now hb)
             clear HO_4
             clear HO_558000
             clear HO_558001
             clear BK548
             clear BK557
             clear HB
             have HO_4 := n0_
             have HO_558000 := n1_
             have HO_558001 := n2_
             have BK548 := n3_
             have BK557 := n4_
             have HB := n5_
             clear n0_ n1_ n2_ n3_ n4_ n5_
             (try clear hb)
             (try clear hb2)
             (try clear hk)
             (try clear hi)
             obtain ⟨Ao271, co271, eo271⟩ := Kd.R_slice HO_558001.out
             (first | subst eo271 | (injection eo271 with f1_ f2_ f3_; have f4_ := f1_.symm; have f5_ := f3_.symm; clear f1_ f2_ f3_; subst f4_; subst f5_))
             refine hK.out _ _ ⟨(blk_cell BK548.out 0).trans rfl, (blk_cell BK548.out 1).trans rfl, (blk_cell BK557.out 0).trans rfl, (blk_cell BK557.out 1).trans rfl, HS4_⟩ (fun hHeld => ?_)
             clear hK K
             refine norm_ (a' := ?_) ?_ ?_
             rotate_left
             ·show Act.put _ (some 117) _ = _
              simp only [Act.put, List.setIfInBounds_toArray, List.set_cons_zero, List.set_cons_succ, i64_w, i32_w]
              rfl
             refine one_ (i := 8) (N := some 119) #[true, true, true, true, true, true, true, true, true, false, false, false, false, false, false] rfl rfl (one_of HT_.out (by kernel_rfl)) (by decide) (fun K hK => ?_)
             refine goes_ Tryd.func21 (by kernel_rfl) rfl #[.agg #[.slice Ao20 t551.length co20, .slice Ao271 x558001_2.length co271]] (by rfl) rfl rfl (by (try simp only [List.map_toArray, List.map_cons, List.map_nil]); first | done | rfl | (simp only [List.length_drop, List.length_take]; rfl)) ?_
             with_reducible refine (stockadelaw04_right.calls _ _ t551 _ _ x558001_2 false _ ?side1 ?side2 ?side3 ?side4 ?side5 A263.out).mono ?_
             (case side1 => repeat (first | exact (Kd.R_reads' HO_558000.out).2.2 | (with_reducible refine Kd.C_alloc ?_ _) | (with_reducible refine Kd.C_drewN ?_ _) | (with_reducible refine Kd.C_drew ?_)))
             (case side2 => exact (Kd.R_reads' HO_558000.out).2.1)
             (case side3 => repeat (first | exact (Kd.R_reads' HO_558001.out).2.2 | (with_reducible refine Kd.C_alloc ?_ _) | (with_reducible refine Kd.C_drewN ?_ _) | (with_reducible refine Kd.C_drew ?_)))
             (case side4 => exact (Kd.R_reads' HO_558001.out).2.1)
             (case side5 => repeat (first | exact (Kd.C_below HRG0.out HB.out) | (with_reducible refine Kd.C_alloc ?_ _) | (with_reducible refine Kd.C_drewN ?_ _) | (with_reducible refine Kd.C_drew ?_)))
             rintro e w272 ⟨rfl, hb⟩
             have HS4_ := (hb.cell (World.block_lt_of_cell? _ _ (hHeld.2.2.2.2))).trans (hHeld.2.2.2.2)
             refine ⟨_, rfl, ?_⟩
             have n0_ := Aside0.mk (Kd.R_below (by (with_reducible repeat (first | apply Kd.R_alloc | apply Kd.R_drewN | apply Kd.R_drew)); exact HO_4.out) hb)
             have n1_ := Aside0.mk (Kd.R_below (by (with_reducible repeat (first | apply Kd.R_alloc | apply Kd.R_drewN | apply Kd.R_drew)); exact HO_558000.out) hb)
             have n2_ := Aside0.mk (Kd.R_below (by (with_reducible repeat (first | apply Kd.R_alloc | apply Kd.R_drewN | apply Kd.R_drew)); exact HO_558001.out) hb)
             have n3_ := Aside0.mk (blk_below (g := gb548) (o := .cells #[.slice A0_0 l0_0.length c0_0, .slice A0_1 l0_1.length c0_1] 25 (0, 0)) bk_now hb)
             have n4_ := Aside0.mk (blk_below (g := gb557) (o := .cells #[.slice Ao20 t551.length co20, .slice Ao271 x558001_2.length co271] 25 (0, 0)) bk_now hb)
             have n5_ := Aside0.mk (below_step b_now hb)
             clear HO_4
             clear HO_558000
             clear HO_558001
             clear BK548
             clear BK557
             clear HB
             have HO_4 := n0_
             have HO_558000 := n1_
             have HO_558001 := n2_
             have BK548 := n3_
             have BK557 := n4_
             have HB := n5_
             clear n0_ n1_ n2_ n3_ n4_ n5_
             (try clear hb)
             (try clear hb2)
             (try clear hk)
             (try clear hi)
             refine hK.out _ _ ⟨(blk_cell BK548.out 0).trans rfl, (blk_cell BK548.out 1).trans rfl, (blk_cell BK557.out 0).trans rfl, (blk_cell BK557.out 1).trans rfl, HS4_⟩ (fun hHeld => ?_)
             clear hK K
             refine norm_ (a' := ?_) ?_ ?_
             rotate_left
             ·show Act.put _ (some 119) _ = _
              simp only [Act.put, List.setIfInBounds_toArray, List.set_cons_zero, List.set_cons_succ, i64_w, i32_w]
              rfl
             refine pure_ (i := 9) (N := some 120) (v := ?_) (a' := ?_) #[true, true, true, true, true, true, true, true, true, true, false, false, false, false, false] rfl rfl (any_of HT_.out (by kernel_rfl)) (fun _ _ _ h => h) (Or.inl ⟨by rfl, ?_⟩) ?_ ?_
             rotate_left
             ·intro w'
              go_simp
              with_reducible rfl
             rotate_left
             ·simp only [Act.put, List.setIfInBounds_toArray, List.set_cons_zero, List.set_cons_succ, i64_w, i32_w]
              rfl
             refine pure_ (i := 10) (N := some 121) (v := undef) (a' := ?_) #[true, true, true, true, true, true, true, true, true, true, true, false, false, false, false] rfl rfl (any_of HT_.out (by kernel_rfl)) (fun _ _ _ h => h) (Or.inr ⟨by rfl, rfl⟩) ?_ ?_
             rotate_left
             ·simp only [Act.put, List.setIfInBounds_toArray, List.set_cons_zero, List.set_cons_succ, i64_w, i32_w]
              rfl
             refine pure_ (i := 11) (N := some 122) (v := ?_) (a' := ?_) #[true, true, true, true, true, true, true, true, true, true, true, true, false, false, false] rfl rfl (any_of HT_.out (by kernel_rfl)) (fun _ _ _ h => h) (Or.inl ⟨by rfl, ?_⟩) ?_ ?_
             rotate_left
             ·intro w'
              go_simp
              with_reducible rfl
             rotate_left
             ·simp only [Act.put, List.setIfInBounds_toArray, List.set_cons_zero, List.set_cons_succ, i64_w, i32_w]
              rfl
             refine pure_ (i := 12) (N := some 123) (v := ?_) (a' := ?_) #[true, true, true, true, true, true, true, true, true, true, true, true, true, false, false] rfl rfl (any_of HT_.out (by kernel_rfl)) (fun _ _ _ h => h) (Or.inl ⟨by rfl, ?_⟩) ?_ ?_
             rotate_left
             ·intro w'
              go_simp
              with_reducible rfl
             rotate_left
             ·simp only [Act.put, List.setIfInBounds_toArray, List.set_cons_zero, List.set_cons_succ, i64_w, i32_w]
              rfl
             refine pure_ (i := 13) (N := some 124) (v := ?_) (a' := ?_) #[true, true, true, true, true, true, true, true, true, true, true, true, true, true, false] rfl rfl (any_of HT_.out (by kernel_rfl)) (fun _ _ _ h => h) (Or.inl ⟨by rfl, ?_⟩) ?_ ?_
             rotate_left
             ·intro w'
              go_simp
              with_reducible rfl
             rotate_left
             ·simp only [Act.put, List.setIfInBounds_toArray, List.set_cons_zero, List.set_cons_succ, i64_w, i32_w]
              rfl
             refine pure_ (i := 14) (N := some 2) (v := ?_) (a' := ?_) #[true, true, true, true, true, true, true, true, true, true, true, true, true, true, true] rfl rfl (any_of HT_.out (by kernel_rfl)) (fun _ _ _ h => h) (Or.inl ⟨by rfl, ?_⟩) ?_ ?_
             rotate_left
             ·intro w'
              go_simp
              with_reducible rfl
             rotate_left
             ·simp only [Act.put, List.setIfInBounds_toArray, List.set_cons_zero, List.set_cons_succ, i64_w, i32_w]
              rfl
             refine done_ (done_of HT_.out (by kernel_rfl)) ?_
             try go_wp2
             go_ret
             exact ⟨ret_now, b_now⟩
           ·replace c261 := Bool.eq_false_iff.mpr c261
            subst c261
            replace H := sh_f H
            obtain rfl := Option.some.inj H
            exact absurd HRT.out (by simp)
          ·rw [if_neg c259] at H
           exact absurd H (by simp)
         ·rw [if_neg c258] at H
          exact absurd H (by simp)
     ·rw [if_neg c16] at H
      have c16b0 : ((t558.length : Int) == (l0_1.length : Int)) = false := beq_eq_false_iff_ne.mpr c16
      have c16b1 : ((t558.length : Int) != (l0_1.length : Int)) = true := bne_iff_ne.mpr c16
      have c16b2 : (t558.length == l0_1.length) = false := by first | simpa using c16 | (simp at c16 ⊢; omega)
      obtain rfl := Option.some.inj H
      exact absurd HRT.out (by simp)
 ·replace c3 := Bool.eq_false_iff.mpr c3
  subst c3
  replace H := sh_f H
  obtain rfl := Option.some.inj H
  exact absurd HRT.out (by simp)

end Go.Proofs.YtdhiibkcoolbeaaDoor.P
