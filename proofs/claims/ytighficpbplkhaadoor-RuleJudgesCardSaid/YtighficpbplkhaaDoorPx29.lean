/- Made by this session's driver over the kit's printer: for each Go function a Lean function with the same answers, and a proof that the Go call comes to these answers; no conditions but the ones each theorem names. -/
import Derived.Test.YtighficpbplkhaaDoorPx0
import Derived.Test.YtighficpbplkhaaDoorPx2
import Derived.Test.YtighficpbplkhaaDoorPx11
import Derived.Test.YtighficpbplkhaaDoorPx21
import Derived.Test.YtighficpbplkhaaDoorPx27
import Derived.Test.YtighficpbplkhaaDoorPx28
namespace Go.Proofs.YtighficpbplkhaaDoor.P
open Go.RowKit Go.Proofs.YtighficpbplkhaaDoorW.PrintWords Go.Proofs.YtighficpbplkhaaDoorW.PrintLast Go.Proofs.YtighficpbplkhaaDoorW.PrintMore
attribute [local go_sem] max2_int min2_int max_two min_two max_three min_three max_four min_four   -- for this text's walks alone
set_option linter.unusedVariables false
set_option linter.unusedSimpArgs false

/-! ### stockadelaw18_RuleJudges: function 4 -/
mutual
def stockadelaw18_RuleJudges.l0 : Nat → List (S46) → List (S53) → List Int → Int → Int → Int → Int → Int → List Int → Int → Option (Bool)
 | 0, _, _, _, _, _, _, _, _, _, _ => none
 | k + 1, x0, x5, x6, x7, x8, x9, x10, x11, x382000, x382001 => if x11 < (x0.length : Int) then (stockadelaw18_RuleJudges.l1 k x0 x5 x6 x7 x8 x9 x10 x11 0 x382000 x382001) else (stockadelaw18_RuleJudges.l2 k x0 x5 x6 x7 x8 x9 x10 0 x382000 x382001)
def stockadelaw18_RuleJudges.l1 : Nat → List (S46) → List (S53) → List Int → Int → Int → Int → Int → Int → Int → List Int → Int → Option (Bool)
 | 0, _, _, _, _, _, _, _, _, _, _, _ => none
 | k + 1, x0, x5, x6, x7, x8, x9, x10, x11, x12, x382000, x382001 => if 0 ≤ x11 then (if x11 < (x0.length : Int) then (if x12 < (((rd_T46 x0 x11).f0).length : Int) then (if x11 < (x5.length : Int) then (if 0 ≤ x12 then (if x12 < (((rd_T53 x5 x11).f0).length : Int) then ((rule_Holds.f k ((rd_T50 ((rd_T53 x5 x11).f0) x12).f0) ((rd_T50 ((rd_T53 x5 x11).f0) x12).f1) ((rd_T50 ((rd_T53 x5 x11).f0) x12).f2) ((rd_T50 ((rd_T53 x5 x11).f0) x12).f3) ((rd_T50 ((rd_T53 x5 x11).f0) x12).f4) ((rd_T50 ((rd_T53 x5 x11).f0) x12).f5) ((rd_T50 ((rd_T53 x5 x11).f0) x12).f6) x6 x382001).bind fun t397 => ((stockaderef18_Holds.f k ((rd_T55 ((rd_T46 x0 x11).f0) x12).f0) ((rd_T55 ((rd_T46 x0 x11).f0) x12).f1) ((rd_T55 ((rd_T46 x0 x11).f0) x12).f2) ((rd_T55 ((rd_T46 x0 x11).f0) x12).f3) ((rd_T55 ((rd_T46 x0 x11).f0) x12).f4) ((rd_T55 ((rd_T46 x0 x11).f0) x12).f5) ((rd_T55 ((rd_T46 x0 x11).f0) x12).f6) x382000 x382001).bind fun t400 => (if (t397 != t400) = true then (some false) else (stockadelaw18_RuleJudges.l1 k x0 x5 x6 x7 x8 x9 x10 x11 (wrap64 (x12 + 1)) x382000 x382001)))) else (none)) else (none)) else (none)) else (stockadelaw18_RuleJudges.l0 k x0 x5 x6 x7 x8 x9 x10 (wrap64 (x11 + 1)) x382000 x382001)) else (none)) else (none)
def stockadelaw18_RuleJudges.l2 : Nat → List (S46) → List (S53) → List Int → Int → Int → Int → Int → Int → List Int → Int → Option (Bool)
 | 0, _, _, _, _, _, _, _, _, _, _ => none
 | k + 1, x0, x5, x6, x7, x8, x9, x10, x13, x382000, x382001 => if x13 < (x6.length : Int) then (if 0 ≤ x13 then (if x13 < (x382000.length : Int) then (if (rd x6 x13) = (rd x382000 x13) then (stockadelaw18_RuleJudges.l2 k x0 x5 x6 x7 x8 x9 x10 (wrap64 (x13 + 1)) x382000 x382001) else (some false)) else (none)) else (none)) else (if x7 = x9 then (if x8 = x10 then ((stockadelaw18_Is.f k x5 x0).bind fun t403 => (if t403 = true then ((stockadelaw18_wakes.f k).bind fun t404 => (some t404)) else (some false))) else (some false)) else (some false))
end
def stockadelaw18_RuleJudges.f (k : Nat) (l0 : List (S46)) (l1_0 : List Int) (a1_1 : Int) : Option (Bool) := (stockadelaw18_large.f k l0).bind fun t382 => (if t382 = true then ((stockadelaw18_wakes.f k).bind fun t383 => (some t383)) else ((stockadelaw18_Table.f k l0).bind fun t384 => (if ([] : List Int).length + l1_0.length < 140737488355328 then ((some (([] : List Int) ++ l1_0 : List Int)).bind fun y387 => ((rule_Judge.f k t384 y387 a1_1).bind fun bt390 => ((stockaderef18_Judge.f k l0 l1_0 a1_1).bind fun bt392 => (stockadelaw18_RuleJudges.l0 k l0 t384 y387 bt390.1 bt390.2 bt392.1 bt392.2 0 l1_0 a1_1)))) else (none))))
theorem stockadelaw18_RuleJudges.mono_l : ∀ k, (∀ y0 y1 y2 y3 y4 y5 y6 y7 y8 y9, LeO (stockadelaw18_RuleJudges.l0 k y0 y1 y2 y3 y4 y5 y6 y7 y8 y9) (stockadelaw18_RuleJudges.l0 (k + 1) y0 y1 y2 y3 y4 y5 y6 y7 y8 y9)) ∧ (∀ y0 y1 y2 y3 y4 y5 y6 y7 y8 y9 y10, LeO (stockadelaw18_RuleJudges.l1 k y0 y1 y2 y3 y4 y5 y6 y7 y8 y9 y10) (stockadelaw18_RuleJudges.l1 (k + 1) y0 y1 y2 y3 y4 y5 y6 y7 y8 y9 y10)) ∧ (∀ y0 y1 y2 y3 y4 y5 y6 y7 y8 y9, LeO (stockadelaw18_RuleJudges.l2 k y0 y1 y2 y3 y4 y5 y6 y7 y8 y9) (stockadelaw18_RuleJudges.l2 (k + 1) y0 y1 y2 y3 y4 y5 y6 y7 y8 y9))
 | 0 => ⟨fun _ _ _ _ _ _ _ _ _ _ r h => by simp [stockadelaw18_RuleJudges.l0] at h, fun _ _ _ _ _ _ _ _ _ _ _ r h => by simp [stockadelaw18_RuleJudges.l1] at h, fun _ _ _ _ _ _ _ _ _ _ r h => by simp [stockadelaw18_RuleJudges.l2] at h⟩
 | k + 1 => by
  obtain ⟨ih0, ih1, ih2⟩ := stockadelaw18_RuleJudges.mono_l k
  refine ⟨?_, ?_, ?_⟩
  ·intro y0 y1 y2 y3 y4 y5 y6 y7 y8 y9
   unfold stockadelaw18_RuleJudges.l0
   repeat' first
   | (with_reducible exact ih0 _ _ _ _ _ _ _ _ _ _)
   | (with_reducible exact ih1 _ _ _ _ _ _ _ _ _ _ _)
   | (with_reducible exact ih2 _ _ _ _ _ _ _ _ _ _)
   | (with_reducible exact rule_Holds.mono _ _ _ _ _ _ _ _ _ _)
   | (with_reducible exact rule_Judge.mono _ _ _ _)
   | (with_reducible exact stockadelaw18_Is.mono _ _ _)
   | (with_reducible exact stockadelaw18_Table.mono _ _)
   | (with_reducible exact stockadelaw18_large.mono _ _)
   | (with_reducible exact stockadelaw18_wakes.mono _)
   | (with_reducible exact stockaderef18_Holds.mono _ _ _ _ _ _ _ _ _ _)
   | (with_reducible exact stockaderef18_Judge.mono _ _ _ _)
   | (with_reducible exact LeO.refl _)
   | (with_reducible exact LeO.none _)
   | (with_reducible refine LeO.ite ?_ ?_)
   | (with_reducible refine LeO.bind ?_ (fun _ => ?_))
   | exact ih0 _ _ _ _ _ _ _ _ _ _
   | exact ih1 _ _ _ _ _ _ _ _ _ _ _
   | exact ih2 _ _ _ _ _ _ _ _ _ _
   | exact rule_Holds.mono _ _ _ _ _ _ _ _ _ _
   | exact rule_Judge.mono _ _ _ _
   | exact stockadelaw18_Is.mono _ _ _
   | exact stockadelaw18_Table.mono _ _
   | exact stockadelaw18_large.mono _ _
   | exact stockadelaw18_wakes.mono _
   | exact stockaderef18_Holds.mono _ _ _ _ _ _ _ _ _ _
   | exact stockaderef18_Judge.mono _ _ _ _
   | exact LeO.none _
   | refine LeO.ite ?_ ?_
   | refine LeO.bind ?_ (fun _ => ?_)
  ·intro y0 y1 y2 y3 y4 y5 y6 y7 y8 y9 y10
   unfold stockadelaw18_RuleJudges.l1
   repeat' first
   | (with_reducible exact ih0 _ _ _ _ _ _ _ _ _ _)
   | (with_reducible exact ih1 _ _ _ _ _ _ _ _ _ _ _)
   | (with_reducible exact ih2 _ _ _ _ _ _ _ _ _ _)
   | (with_reducible exact rule_Holds.mono _ _ _ _ _ _ _ _ _ _)
   | (with_reducible exact rule_Judge.mono _ _ _ _)
   | (with_reducible exact stockadelaw18_Is.mono _ _ _)
   | (with_reducible exact stockadelaw18_Table.mono _ _)
   | (with_reducible exact stockadelaw18_large.mono _ _)
   | (with_reducible exact stockadelaw18_wakes.mono _)
   | (with_reducible exact stockaderef18_Holds.mono _ _ _ _ _ _ _ _ _ _)
   | (with_reducible exact stockaderef18_Judge.mono _ _ _ _)
   | (with_reducible exact LeO.refl _)
   | (with_reducible exact LeO.none _)
   | (with_reducible refine LeO.ite ?_ ?_)
   | (with_reducible refine LeO.bind ?_ (fun _ => ?_))
   | exact ih0 _ _ _ _ _ _ _ _ _ _
   | exact ih1 _ _ _ _ _ _ _ _ _ _ _
   | exact ih2 _ _ _ _ _ _ _ _ _ _
   | exact rule_Holds.mono _ _ _ _ _ _ _ _ _ _
   | exact rule_Judge.mono _ _ _ _
   | exact stockadelaw18_Is.mono _ _ _
   | exact stockadelaw18_Table.mono _ _
   | exact stockadelaw18_large.mono _ _
   | exact stockadelaw18_wakes.mono _
   | exact stockaderef18_Holds.mono _ _ _ _ _ _ _ _ _ _
   | exact stockaderef18_Judge.mono _ _ _ _
   | exact LeO.none _
   | refine LeO.ite ?_ ?_
   | refine LeO.bind ?_ (fun _ => ?_)
  ·intro y0 y1 y2 y3 y4 y5 y6 y7 y8 y9
   unfold stockadelaw18_RuleJudges.l2
   repeat' first
   | (with_reducible exact ih0 _ _ _ _ _ _ _ _ _ _)
   | (with_reducible exact ih1 _ _ _ _ _ _ _ _ _ _ _)
   | (with_reducible exact ih2 _ _ _ _ _ _ _ _ _ _)
   | (with_reducible exact rule_Holds.mono _ _ _ _ _ _ _ _ _ _)
   | (with_reducible exact rule_Judge.mono _ _ _ _)
   | (with_reducible exact stockadelaw18_Is.mono _ _ _)
   | (with_reducible exact stockadelaw18_Table.mono _ _)
   | (with_reducible exact stockadelaw18_large.mono _ _)
   | (with_reducible exact stockadelaw18_wakes.mono _)
   | (with_reducible exact stockaderef18_Holds.mono _ _ _ _ _ _ _ _ _ _)
   | (with_reducible exact stockaderef18_Judge.mono _ _ _ _)
   | (with_reducible exact LeO.refl _)
   | (with_reducible exact LeO.none _)
   | (with_reducible refine LeO.ite ?_ ?_)
   | (with_reducible refine LeO.bind ?_ (fun _ => ?_))
   | exact ih0 _ _ _ _ _ _ _ _ _ _
   | exact ih1 _ _ _ _ _ _ _ _ _ _ _
   | exact ih2 _ _ _ _ _ _ _ _ _ _
   | exact rule_Holds.mono _ _ _ _ _ _ _ _ _ _
   | exact rule_Judge.mono _ _ _ _
   | exact stockadelaw18_Is.mono _ _ _
   | exact stockadelaw18_Table.mono _ _
   | exact stockadelaw18_large.mono _ _
   | exact stockadelaw18_wakes.mono _
   | exact stockaderef18_Holds.mono _ _ _ _ _ _ _ _ _ _
   | exact stockaderef18_Judge.mono _ _ _ _
   | exact LeO.none _
   | refine LeO.ite ?_ ?_
   | refine LeO.bind ?_ (fun _ => ?_)
theorem stockadelaw18_RuleJudges.mono : ∀ a0 a1 a2 k, LeO (stockadelaw18_RuleJudges.f k a0 a1 a2) (stockadelaw18_RuleJudges.f (k + 1) a0 a1 a2) := by
 intro a0 a1 a2 k
 obtain ⟨ih0, ih1, ih2⟩ := stockadelaw18_RuleJudges.mono_l k
 unfold stockadelaw18_RuleJudges.f
 repeat' first
   | (with_reducible exact ih0 _ _ _ _ _ _ _ _ _ _)
   | (with_reducible exact ih1 _ _ _ _ _ _ _ _ _ _ _)
   | (with_reducible exact ih2 _ _ _ _ _ _ _ _ _ _)
   | (with_reducible exact rule_Holds.mono _ _ _ _ _ _ _ _ _ _)
   | (with_reducible exact rule_Judge.mono _ _ _ _)
   | (with_reducible exact stockadelaw18_Is.mono _ _ _)
   | (with_reducible exact stockadelaw18_Table.mono _ _)
   | (with_reducible exact stockadelaw18_large.mono _ _)
   | (with_reducible exact stockadelaw18_wakes.mono _)
   | (with_reducible exact stockaderef18_Holds.mono _ _ _ _ _ _ _ _ _ _)
   | (with_reducible exact stockaderef18_Judge.mono _ _ _ _)
   | (with_reducible exact LeO.refl _)
   | (with_reducible exact LeO.none _)
   | (with_reducible refine LeO.ite ?_ ?_)
   | (with_reducible refine LeO.bind ?_ (fun _ => ?_))
   | exact ih0 _ _ _ _ _ _ _ _ _ _
   | exact ih1 _ _ _ _ _ _ _ _ _ _ _
   | exact ih2 _ _ _ _ _ _ _ _ _ _
   | exact rule_Holds.mono _ _ _ _ _ _ _ _ _ _
   | exact rule_Judge.mono _ _ _ _
   | exact stockadelaw18_Is.mono _ _ _
   | exact stockadelaw18_Table.mono _ _
   | exact stockadelaw18_large.mono _ _
   | exact stockadelaw18_wakes.mono _
   | exact stockaderef18_Holds.mono _ _ _ _ _ _ _ _ _ _
   | exact stockaderef18_Judge.mono _ _ _ _
   | exact LeO.none _
   | refine LeO.ite ?_ ?_
   | refine LeO.bind ?_ (fun _ => ?_)
def stockadelaw18_RuleJudges.T13 : Bool × List (List Nat × List Nat) := (true, [([], []), ([], []), ([0, 1], [0, 1]), ([2], [2]), ([3], [3]), ([], []), ([4, 5], [4, 5]), ([6], [6]), ([], []), ([], []), ([9], [9]), ([7, 8, 10], [7, 8, 10]), ([], []), ([], []), ([12, 13], [12, 13]), ([14], [14]), ([15], [15]), ([], []), ([16, 17], [16, 17]), ([18], [18]), ([], []), ([20], [20]), ([], []), ([22], [22]), ([19, 21, 23, 11], [19, 21, 23]), ([11, 24], [11, 24])])
def stockadelaw18_RuleJudges.B13 : List Nat := [0, 0, 3, 7, 15, 0, 63, 127, 0, 0, 512, 2047, 0, 0, 12288, 28672, 61440, 0, 258048, 520192, 0, 1048576, 0, 4194304, 16777215, 33554431]
theorem stockadelaw18_RuleJudges.tab13 : rtab .any (opsOf Tryd.f4 13) = stockadelaw18_RuleJudges.T13 := by kernel_rfl
theorem stockadelaw18_RuleJudges.bits13 : waitsOk stockadelaw18_RuleJudges.T13.2 stockadelaw18_RuleJudges.B13 = true := by kernel_rfl
def stockadelaw18_RuleJudges.T18 : Bool × List (List Nat × List Nat) := (true, [([], []), ([], []), ([0, 1], [0, 1]), ([2], [2]), ([], []), ([4], [4]), ([], []), ([5, 6], [5, 6]), ([7], [7]), ([3, 8], [3, 8])])
def stockadelaw18_RuleJudges.B18 : List Nat := [0, 0, 3, 7, 0, 16, 0, 112, 240, 511]
theorem stockadelaw18_RuleJudges.tab18 : rtab .any (opsOf Tryd.f4 18) = stockadelaw18_RuleJudges.T18 := by kernel_rfl
theorem stockadelaw18_RuleJudges.bits18 : waitsOk stockadelaw18_RuleJudges.T18.2 stockadelaw18_RuleJudges.B18 = true := by kernel_rfl
set_option maxHeartbeats 8000000 in
set_option maxRecDepth 100000 in
theorem stockadelaw18_RuleJudges.calls (k : Nat) (A0 : Option Addr) (c0 : Nat) (l0 : List (S46)) (A1_0 : Option Addr) (c1_0 : Nat) (l1_0 : List Int) (a1_1 : Int) (r : Bool) (w : World) (hr0 : Kd.C k46 w A0 l0.length l0) (hc0 : l0.length ≤ c0) (hr1_0 : Kd.C (Kd.int .u8) w A1_0 l1_0.length l1_0) (hc1_0 : l1_0.length ≤ c1_0) (hrG0 : Kd.C kGF w (some ⟨0, 0, none⟩) gl0.length gl0) (hr_ : r = true) (h : stockadelaw18_RuleJudges.f k l0 l1_0 a1_1 = some r) :
  Calls Tryd.prog 4 #[.slice A0 l0.length c0, .agg #[.slice A1_0 l1_0.length c1_0, .int .u32 a1_1]] w fun e w' => e = .returned (.bool r) ∧ Below w.heap.size w w' := by
 have hu40 := Tryd.underlying40
 have hu50 := Tryd.underlying50
 have hu55 := Tryd.underlying55
 have HR0 := Aside0.mk hr0
 have HC0 := Aside0.mk hc0
 clear hr0 hc0
 have HR1_0 := Aside0.mk hr1_0
 have HC1_0 := Aside0.mk hc1_0
 clear hr1_0 hc1_0
 have HRG0 := Aside0.mk hrG0
 clear hrG0
 have HRT := Aside0.mk hr_
 clear hr_
 have HB := Aside0.mk (Below.refl w.heap.size w)
 have H : ((stockadelaw18_large.f k l0).bind fun t382 => (if t382 = true then ((stockadelaw18_wakes.f k).bind fun t383 => (some t383)) else ((stockadelaw18_Table.f k l0).bind fun t384 => (if ([] : List Int).length + l1_0.length < 140737488355328 then ((some (([] : List Int) ++ l1_0 : List Int)).bind fun y387 => ((rule_Judge.f k t384 y387 a1_1).bind fun bt390 => ((stockaderef18_Judge.f k l0 l1_0 a1_1).bind fun bt392 => (stockadelaw18_RuleJudges.l0 k l0 t384 y387 bt390.1 bt390.2 bt392.1 bt392.2 0 l1_0 a1_1)))) else (none))))) = some r := h
 clear h
 replace H := Option.bind_eq_some_iff.mp H; obtain ⟨t382, A30, H⟩ := H; try dsimp only at H
 have A3 := Aside0.mk A30
 clear A30
 by_cases c4 : t382 = true
 ·subst c4
  replace H := sh_t H
  replace H := Option.bind_eq_some_iff.mp H; obtain ⟨t383, A50, H⟩ := H; try dsimp only at H
  have A5 := Aside0.mk A50
  clear A50
  obtain rfl := Option.some.inj H
  go_enter Tryd.func4, Tryd.ntmps4
  go_wp2_with (first | ((with_reducible refine gate_dst (N := 3) rfl ?_); refine sh_box 3 #[.slice A1_0 l1_0.length c1_0, .int .u32 a1_1] 40 ?_; intro gb381 hg w6 hbox hb; have GE381 := sh_z (w := w) hg; replace HB := sh_b (w := w) hb; have BK381 := Aside0.mk (hbox); clear hb hbox hg) | ((with_reducible refine gate_callee (f := 10) rfl ?_); refine sh_call (some 15) Tryd.func10 #[.slice A0 l0.length c0] ?_; (with_reducible refine (stockadelaw18_large.calls k _ _ l0 true _ ?side1 ?side2 A3.out).mono ?_); (case side1 => repeat (first | exact (Kd.C_below HR0.out HB.out) | (with_reducible refine Kd.C_alloc ?_ _) | (with_reducible refine Kd.C_drewN ?_ _) | (with_reducible refine Kd.C_drew ?_))); (case side2 => exact HC0.out); rintro e w' ⟨rfl, ⟨nd, rfl⟩⟩; refine ⟨_, rfl, ?_⟩) | ((with_reducible refine gate_callee (f := 11) rfl ?_); refine sh_call (some 16) Tryd.func11 #[] ?_; (with_reducible refine (stockadelaw18_wakes.calls k  t383 _ ?side1 (by first | rfl | exact HRT.out) A5.out).mono ?_); (case side1 => repeat (first | exact (Kd.C_below HRG0.out b_now) | (with_reducible refine Kd.C_alloc ?_ _) | (with_reducible refine Kd.C_drewN ?_ _) | (with_reducible refine Kd.C_drew ?_))); rintro e w7 ⟨rfl, hb⟩; refine ⟨_, rfl, ?_⟩; replace BK381 := sh_k BK381 hb; replace HB := sh_b (w := w) hb; (try clear hb); (try clear hb2); (try clear hk); (try clear hi)))
  go_ret
  exact ⟨ret_now, b_now⟩
 ·replace c4 := Bool.eq_false_iff.mpr c4
  subst c4
  replace H := sh_f H
  replace H := Option.bind_eq_some_iff.mp H; obtain ⟨t384, A80, H⟩ := H; try dsimp only at H
  have A8 := Aside0.mk A80
  clear A80
  by_cases c9 : ([] : List Int).length + l1_0.length < 140737488355328
  ·rw [if_pos c9] at H
   have LMc9 := Aside0.mk c9
   clear c9
   obtain ⟨y387, hy387⟩ : ∃ y_ : List Int, y_ = (([] : List Int) ++ l1_0) := ⟨_, rfl⟩
   replace H : ((rule_Judge.f k t384 y387 a1_1).bind fun bt390 => ((stockaderef18_Judge.f k l0 l1_0 a1_1).bind fun bt392 => (stockadelaw18_RuleJudges.l0 k l0 t384 y387 bt390.1 bt390.2 bt392.1 bt392.2 0 l1_0 a1_1))) = some r := by first | (rw [hy387]; with_reducible exact H) | (have H2_ := (Option.bind_some _ _).symm.trans H; rw [hy387]; with_reducible exact H2_) | (have H2_ := (Option.bind_some _ _).symm.trans H; with_reducible exact H2_) | with_reducible exact H | (rw [hy387]; exact H) | exact H
   have Ny387 := Aside0.mk hy387
   clear hy387
   replace H := Option.bind_eq_some_iff.mp H; obtain ⟨⟨t390, t391⟩, A100, H⟩ := H; try dsimp only at H
   have A10 := Aside0.mk A100
   clear A100
   replace H := Option.bind_eq_some_iff.mp H; obtain ⟨⟨t392, t393⟩, A110, H⟩ := H; try dsimp only at H
   have A11 := Aside0.mk A110
   clear A110
   have H' := Aside0.mk H
   clear H
   go_enter Tryd.func4, Tryd.ntmps4
   go_wp2_with (first | ((with_reducible refine gate_dst (N := 3) rfl ?_); refine sh_box 3 #[.slice A1_0 l1_0.length c1_0, .int .u32 a1_1] 40 ?_; intro gb381 hg w12 hbox hb; have GE381 := sh_z (w := w) hg; replace HB := sh_b (w := w) hb; have BK381 := Aside0.mk (hbox); clear hb hbox hg) | ((with_reducible refine gate_callee (f := 10) rfl ?_); refine sh_call (some 15) Tryd.func10 #[.slice A0 l0.length c0] ?_; (with_reducible refine (stockadelaw18_large.calls k _ _ l0 false _ ?side1 ?side2 A3.out).mono ?_); (case side1 => repeat (first | exact (Kd.C_below HR0.out HB.out) | (with_reducible refine Kd.C_alloc ?_ _) | (with_reducible refine Kd.C_drewN ?_ _) | (with_reducible refine Kd.C_drew ?_))); (case side2 => exact HC0.out); rintro e w' ⟨rfl, ⟨nd, rfl⟩⟩; refine ⟨_, rfl, ?_⟩) | ((with_reducible refine gate_callee (f := 12) rfl ?_); refine sh_call (some 18) Tryd.func12 #[.slice A0 l0.length c0] ?_; (with_reducible refine (stockadelaw18_Table.calls k _ _ l0 t384 _ ?side1 ?side2 A8.out).mono ?_); (case side1 => repeat (first | exact (Kd.C_below HR0.out b_now) | (with_reducible refine Kd.C_alloc ?_ _) | (with_reducible refine Kd.C_drewN ?_ _) | (with_reducible refine Kd.C_drew ?_))); (case side2 => exact HC0.out); rintro e w13 ⟨v385, rfl, ho0, hb⟩; refine ⟨_, rfl, ?_⟩; have HO386 := Aside0.mk (Kd.S_lower ho0 (below_size b_now)); replace BK381 := sh_k BK381 hb; replace HB := sh_b (w := w) hb; (try clear hb); (try clear hb2); (try clear hk); (try clear hi); (try clear ho0); have hcz14 := blk_all2 BK381.out) | ((with_reducible refine gate_builtin (b := .append) (xs := #[.const (.slice none 0 0), .tmp 20]) rfl ?_); at_builtin; refine Kd.R_append_rows (Kd.int .u8) (w0 := w) w.heap.size rfl (.const (.slice none 0 0)) (.tmp 20) 37 5 (.int .u8 0) 1 rfl Tryd.underlying37 info5 rfl (by decide) (by omega) (.slice none 0 0) ([] : List Int) l1_0 _ _ _ (fun _ => True) (fun _ => False) rfl rfl ?aO ?aR (fun _ _ h => h) (fun _ h => h.elim) ?aF ?aB ?aS ?aL ?_; (case aR => repeat (first | exact (Kd.C_below HR1_0.out HB.out) | (with_reducible refine Kd.C_alloc ?_ _) | (with_reducible refine Kd.C_drewN ?_ _) | (with_reducible refine Kd.C_drew ?_))); (case aB => exact b_now); (case aF => exact (fun _ _ => trivial)); (case aO => exact ((Kd.R_nil _ _ _ _ (fun _ => True)))); (case aS => exact (below_size b_now)); (case aL => have := LMc9.out; omega); intro v388 w15 ho hb hg hat; rw [← Ny387.out] at ho; have HO389 := Aside0.mk (ho); replace BK381 := Aside0.mk (blk_grown (g := gb381) (o := .cells #[.slice A1_0 l1_0.length c1_0, .int .u32 a1_1] 40 (0, 0)) bk_now hg (by simp [Value.ownBlock])); replace HO386 := Aside0.mk (Kd.S_grown (by (with_reducible repeat (first | apply Kd.S_alloc | apply Kd.S_drewN | apply Kd.S_drew)); exact HO386.out) hg (fun _ _ => by simp [Value.ownBlock])); replace HB := Aside0.mk (hb); clear ho hb hg hat; have hcz16 := blk_all2 BK381.out; obtain ⟨Ao17, co17, eo17⟩ := Kd.S_slice HO386.out; subst eo17; obtain ⟨Ao18, co18, eo18⟩ := Kd.R_slice HO389.out; subst eo18) | ((with_reducible refine gate_callee (f := 18) rfl ?_); refine sh_call (some 27) Tryd.func18 #[.slice Ao17 t384.length co17, .slice Ao18 y387.length co18, .int .u32 a1_1] ?_; (with_reducible refine (rule_Judge.calls k _ _ t384 _ _ y387 a1_1 t390 t391 _ ?side1 ?side2 ?side3 ?side4 A10.out).mono ?_); (case side1 => repeat (first | exact (Kd.S_reads' HO386.out).2.2 | (with_reducible refine Kd.C_alloc ?_ _) | (with_reducible refine Kd.C_drewN ?_ _) | (with_reducible refine Kd.C_drew ?_))); (case side2 => exact (Kd.S_reads' HO386.out).2.1); (case side3 => repeat (first | exact (Kd.R_reads' HO389.out).2.2 | (with_reducible refine Kd.C_alloc ?_ _) | (with_reducible refine Kd.C_drewN ?_ _) | (with_reducible refine Kd.C_drew ?_))); (case side4 => exact (Kd.R_reads' HO389.out).2.1); rintro e w19 ⟨rfl, hb⟩; refine ⟨_, rfl, ?_⟩; replace HO386 := Aside0.mk (Kd.S_below (by (with_reducible repeat (first | apply Kd.S_alloc | apply Kd.S_drewN | apply Kd.S_drew)); exact HO386.out) hb); replace HO389 := Aside0.mk (Kd.R_below (by (with_reducible repeat (first | apply Kd.R_alloc | apply Kd.R_drewN | apply Kd.R_drew)); exact HO389.out) hb); replace BK381 := sh_k BK381 hb; replace HB := sh_b (w := w) hb; (try clear hb); (try clear hb2); (try clear hk); (try clear hi); have hcz20 := blk_all2 BK381.out) | ((with_reducible refine gate_callee (f := 19) rfl ?_); refine sh_call (some 36) Tryd.func19 #[.slice A0 l0.length c0, .slice A1_0 l1_0.length c1_0, .int .u32 a1_1] ?_; (with_reducible refine (stockaderef18_Judge.calls k _ _ l0 _ _ l1_0 a1_1 t392 t393 _ ?side1 ?side2 ?side3 ?side4 A11.out).mono ?_); (case side1 => repeat (first | exact (Kd.C_below HR0.out HB.out) | (with_reducible refine Kd.C_alloc ?_ _) | (with_reducible refine Kd.C_drewN ?_ _) | (with_reducible refine Kd.C_drew ?_))); (case side2 => exact HC0.out); (case side3 => repeat (first | exact (Kd.C_below HR1_0.out HB.out) | (with_reducible refine Kd.C_alloc ?_ _) | (with_reducible refine Kd.C_drewN ?_ _) | (with_reducible refine Kd.C_drew ?_))); (case side4 => exact HC1_0.out); rintro e w21 ⟨rfl, hb⟩; refine ⟨_, rfl, ?_⟩; replace HO386 := Aside0.mk (Kd.S_below (by (with_reducible repeat (first | apply Kd.S_alloc | apply Kd.S_drewN | apply Kd.S_drew)); exact HO386.out) hb); replace HO389 := Aside0.mk (Kd.R_below (by (with_reducible repeat (first | apply Kd.R_alloc | apply Kd.R_drewN | apply Kd.R_drew)); exact HO389.out) hb); replace BK381 := sh_k BK381 hb; replace HB := sh_b (w := w) hb; (try clear hb); (try clear hb2); (try clear hk); (try clear hi)))
   go_loopg [11] k (fun kq v11 w' => ∃ (x11_1 : Int), v11 = .int .i64 x11_1 ∧ Aside0 (stockadelaw18_RuleJudges.l0 kq l0 t384 y387 t390 t391 t392 t393 x11_1 l1_0 a1_1 = some r) ∧ Aside0 (kq ≤ k) ∧ Aside0 (Kd.S k53 53 w' w.heap.size (fun _ => True) (.slice Ao17 t384.length co17) t384) ∧ Aside0 (Kd.R (Kd.int .u8) 5 w' w.heap.size (fun _ => True) (.slice Ao18 y387.length co18) y387) ∧ Aside0 (w'.heap[gb381]? = some (.cells #[(.slice A1_0 l1_0.length c1_0), .int .u32 a1_1] 40 (0, 0))) ∧ Aside0 (Below w.heap.size w w'))
   case atStart => exact ⟨(0), eq_now, H', ⟨Nat.le_refl _⟩, ⟨by (with_reducible repeat (first | apply Kd.S_alloc | apply Kd.S_drewN | apply Kd.S_drew)); exact HO386.out⟩, ⟨by (with_reducible repeat (first | apply Kd.R_alloc | apply Kd.R_drewN | apply Kd.R_drew)); exact HO389.out⟩, ⟨bk_now⟩, ⟨b_now⟩⟩
   case round =>
    clear H'
    try clear c1
    try clear p2
    try clear c4
    try clear c9
    try clear c10
    try clear c11
    try clear c12
    try clear c18
    try clear c19
    try clear hcz14
    try clear hcz16
    try clear hcz20
    obtain ⟨x11_1, rfl, HA, HK1, HO_5, HO_6, BK381, HB⟩ := hrel
    cases gk with
    | zero => exact absurd HA.out (by simp [stockadelaw18_RuleJudges.l0])
    | succ k1 =>
     have H := HA.out
     clear HA
     simp only [stockadelaw18_RuleJudges.l0] at H
     by_cases c22 : x11_1 < (l0.length : Int)
     ·rw [if_pos c22] at H
      have c22b0 : decide (x11_1 < (l0.length : Int)) = true := decide_eq_true c22
      clear c22
      have H' := Aside0.mk H
      clear H
      go_wp2
      go_loopg [12] k1 (fun kq v12 w' => ∃ (x12_2 : Int), v12 = .int .i64 x12_2 ∧ Aside0 (stockadelaw18_RuleJudges.l1 kq l0 t384 y387 t390 t391 t392 t393 x11_1 x12_2 l1_0 a1_1 = some r) ∧ Aside0 (kq ≤ k1) ∧ Aside0 (Kd.S k53 53 w' w.heap.size (fun _ => True) (.slice Ao17 t384.length co17) t384) ∧ Aside0 (Kd.R (Kd.int .u8) 5 w' w.heap.size (fun _ => True) (.slice Ao18 y387.length co18) y387) ∧ Aside0 (w'.heap[gb381]? = some (.cells #[(.slice A1_0 l1_0.length c1_0), .int .u32 a1_1] 40 (0, 0))) ∧ Aside0 (Below w.heap.size w w'))
      case atStart => exact ⟨(0), eq_now, H', ⟨Nat.le_refl _⟩, ⟨by (with_reducible repeat (first | apply Kd.S_alloc | apply Kd.S_drewN | apply Kd.S_drew)); exact HO_5.out⟩, ⟨by (with_reducible repeat (first | apply Kd.R_alloc | apply Kd.R_drewN | apply Kd.R_drew)); exact HO_6.out⟩, ⟨bk_now⟩, ⟨b_now⟩⟩
      case round =>
       clear H'
       try clear c1
       try clear c2
       try clear p2
       try clear c4
       try clear c9
       try clear c10
       try clear c11
       try clear c12
       try clear c18
       try clear c19
       try clear c22
       try clear c22b0
       try clear hcz14
       try clear hcz16
       try clear hcz20
       try clear p2
       obtain ⟨x12_2, rfl, HA, HK2, HO_5, HO_6, BK381, HB⟩ := hrel
       cases gk with
       | zero => exact absurd HA.out (by simp [stockadelaw18_RuleJudges.l1])
       | succ k2 =>
        have H := HA.out
        clear HA
        simp only [stockadelaw18_RuleJudges.l1] at H
        by_cases c23 : 0 ≤ x11_1
        ·rw [if_pos c23] at H
         have c23b0 : decide (0 ≤ x11_1) = true := decide_eq_true c23
         clear c23
         by_cases c24 : x11_1 < (l0.length : Int)
         ·rw [if_pos c24] at H
          have c24b0 : decide (x11_1 < (l0.length : Int)) = true := decide_eq_true c24
          clear c24
          by_cases c25 : x12_2 < (((rd_T46 l0 x11_1).f0).length : Int)
          ·rw [if_pos c25] at H
           have c25b0 : decide (x12_2 < (((rd_T46 l0 x11_1).f0).length : Int)) = true := decide_eq_true c25
           clear c25
           by_cases c26 : x11_1 < (t384.length : Int)
           ·rw [if_pos c26] at H
            have c26b0 : decide (x11_1 < (t384.length : Int)) = true := decide_eq_true c26
            clear c26
            by_cases c27 : 0 ≤ x12_2
            ·rw [if_pos c27] at H
             have c27b0 : decide (0 ≤ x12_2) = true := decide_eq_true c27
             clear c27
             by_cases c28 : x12_2 < (((rd_T53 t384 x11_1).f0).length : Int)
             ·rw [if_pos c28] at H
              have c28b0 : decide (x12_2 < (((rd_T53 t384 x11_1).f0).length : Int)) = true := decide_eq_true c28
              clear c28
              replace H := Option.bind_eq_some_iff.mp H; obtain ⟨t397, A290, H⟩ := H; try dsimp only at H
              have A29 := Aside0.mk A290
              clear A290
              replace H := Option.bind_eq_some_iff.mp H; obtain ⟨t400, A300, H⟩ := H; try dsimp only at H
              have A30 := Aside0.mk A300
              clear A300
              by_cases c31 : (t397 != t400) = true
              ·rw [if_pos c31] at H
               have c31b0 : (t397 != t400) = true := c31
               (try (have c31b1 : decide (t397 = t400) = false := by simpa using c31))
               (try (have c31b2 : (t397 == t400) = false := by simpa using c31))
               (try (have c31b3 : ¬ (t397 = t400) := by simpa using c31))
               clear c31
               obtain rfl := Option.some.inj H
               exact absurd HRT.out (by simp)
              ·rw [if_neg c31] at H
               have c31b0 : (t397 != t400) = false := by simpa using c31
               (try (have c31b1 : decide (t397 = t400) = true := by simpa using c31))
               (try (have c31b2 : (t397 == t400) = true := by simpa using c31))
               clear c31
               have H' := Aside0.mk H
               clear H
               have p394 : 0 ≤ (x11_1 : Int) := of_decide_eq_true (by first | (with_reducible assumption) | assumption)
               have q394 : x11_1 < (l0.length : Int) := of_decide_eq_true (by first | (with_reducible assumption) | assumption)
               obtain ⟨ad394, A394_0, c394_0, e394, hx394_0, hx394_1, hl394_0, hi394_0⟩ := at_T46 HR0.out x11_1 p394 q394
               cases e394
               replace hx394_0 := (HB.out.cell (World.block_lt_of_cell? w _ hx394_0)).trans hx394_0
               replace hx394_1 := (HB.out.cell (World.block_lt_of_cell? w _ hx394_1)).trans hx394_1
               have HR394_0 := Aside0.mk hi394_0
               have HC394_0 := Aside0.mk hl394_0
               clear hi394_0 hl394_0
               replace p394 := eq_true p394
               replace q394 := eq_true q394
               try go_wp2
               have n0_ := Aside0.mk (Kd.S_drew HO_5.out)
               have n1_ := Aside0.mk (Kd.R_drew HO_6.out)
               have n2_ := Aside0.mk (blk_drew BK381.out)
               have n3_ := Aside0.mk (below_drew1 HB.out)
               clear HO_5
               clear HO_6
               clear BK381
               clear HB
               have HO_5 := n0_
               have HO_6 := n1_
               have BK381 := n2_
               have HB := n3_
               clear n0_ n1_ n2_ n3_
               have p395 : 0 ≤ (x11_1 : Int) := of_decide_eq_true (by first | (with_reducible assumption) | assumption)
               have q395 : x11_1 < (t384.length : Int) := of_decide_eq_true (by first | (with_reducible assumption) | assumption)
               obtain ⟨ad395, A395_0, c395_0, e395, hx395_0, hx395_1, hl395_0, hi395_0⟩ := at_T53 (Kd.S_reads' HO_5.out).2.2 x11_1 p395 q395
               cases e395
               obtain ⟨ce395, hce395, hMe395, hcc395⟩ := Kd.S_get HO_5.out z53 x11_1 p395 (by first | exact q395 | exact of_decide_eq_true (by first | (with_reducible assumption) | assumption) | (have e_ := (Kd.S_reads' HO_5.out).1; omega))
               obtain ⟨ve395_0, rfl, ge395_0⟩ := k53_openM hMe395
               have hv395_0 := hcc395 0 _ rfl
               rw [Nat.add_zero] at hv395_0
               replace hv395_0 := Option.some.inj (hv395_0.symm.trans hx395_0)
               rw [hv395_0] at ge395_0
               have HL395_0 := Aside0.mk (show Kd.R k50 50 _ _ _ _ ((rd_T53 t384 x11_1).f0) from ge395_0)
               clear hv395_0 ge395_0
               clear hcc395 hce395
               have HR395_0 := Aside0.mk hi395_0
               have HC395_0 := Aside0.mk hl395_0
               clear hi395_0 hl395_0
               replace p395 := eq_true p395
               replace q395 := eq_true q395
               have p396 : 0 ≤ (x12_2 : Int) := of_decide_eq_true (by first | (with_reducible assumption) | assumption)
               have q396 : x12_2 < (((rd_T53 t384 x11_1).f0).length : Int) := of_decide_eq_true (by first | (with_reducible assumption) | assumption)
               obtain ⟨ad396, e396, hx396_0, hx396_1, hx396_2, hx396_3, hx396_4, hx396_5, hx396_6⟩ := at_T50 (by repeat (first | (with_reducible exact HR395_0.out) | (with_reducible refine Kd.C_alloc ?_ _) | (with_reducible refine Kd.C_drewN ?_ _) | (with_reducible refine Kd.C_drew ?_) | exact HR395_0.out)) x12_2 p396 q396
               cases e396
               replace p396 := eq_true p396
               replace q396 := eq_true q396
               have p398 : 0 ≤ (x11_1 : Int) := of_decide_eq_true (by first | (with_reducible assumption) | assumption)
               have q398 : x11_1 < (l0.length : Int) := of_decide_eq_true (by first | (with_reducible assumption) | assumption)
               obtain ⟨ad398, A398_0, c398_0, e398, hx398_0, hx398_1, hl398_0, hi398_0⟩ := at_T46 HR0.out x11_1 p398 q398
               have hw398_1 := hx398_1
               have hw398_0 := hx398_0
               obtain rfl : ad394 = ad398 := (by injection e398)
               replace hx398_0 := (HB.out.cell (World.block_lt_of_cell? w _ hx398_0)).trans hx398_0
               replace hx398_1 := (HB.out.cell (World.block_lt_of_cell? w _ hx398_1)).trans hx398_1
               have HR398_0 := Aside0.mk hi398_0
               have HC398_0 := Aside0.mk hl398_0
               clear hi398_0 hl398_0
               replace p398 := eq_true p398
               replace q398 := eq_true q398
               have p399 : 0 ≤ (x12_2 : Int) := of_decide_eq_true (by first | (with_reducible assumption) | assumption)
               have q399 : x12_2 < (((rd_T46 l0 x11_1).f0).length : Int) := of_decide_eq_true (by first | (with_reducible assumption) | assumption)
               obtain ⟨ad399, e399, hx399_0, hx399_1, hx399_2, hx399_3, hx399_4, hx399_5, hx399_6⟩ := at_T55 HR398_0.out x12_2 p399 q399
               have hw399_6 := hx399_6
               have hw399_5 := hx399_5
               have hw399_4 := hx399_4
               have hw399_3 := hx399_3
               have hw399_2 := hx399_2
               have hw399_1 := hx399_1
               have hw399_0 := hx399_0
               cases e399
               replace hx399_0 := (HB.out.cell (World.block_lt_of_cell? w _ hx399_0)).trans hx399_0
               replace hx399_1 := (HB.out.cell (World.block_lt_of_cell? w _ hx399_1)).trans hx399_1
               replace hx399_2 := (HB.out.cell (World.block_lt_of_cell? w _ hx399_2)).trans hx399_2
               replace hx399_3 := (HB.out.cell (World.block_lt_of_cell? w _ hx399_3)).trans hx399_3
               replace hx399_4 := (HB.out.cell (World.block_lt_of_cell? w _ hx399_4)).trans hx399_4
               replace hx399_5 := (HB.out.cell (World.block_lt_of_cell? w _ hx399_5)).trans hx399_5
               replace hx399_6 := (HB.out.cell (World.block_lt_of_cell? w _ hx399_6)).trans hx399_6
               replace p399 := eq_true p399
               replace q399 := eq_true q399
               refine start_ (n := 26) (S := fun w' => w'.cell? ⟨gb381, 0, none⟩ = some (.slice A1_0 l1_0.length c1_0) ∧ w'.cell? ⟨gb381, 1, none⟩ = some (.int .u32 a1_1) ∧ w'.cell? (ad395.add ((x11_1).toNat * 2)) = some (.slice (some ad396) ((rd_T53 t384 x11_1).f0).length c395_0) ∧ w'.cell? ⟨(ad395.add ((x11_1).toNat * 2)).block, (ad395.add ((x11_1).toNat * 2)).off + 1, none⟩ = some (.int .u32 ((rd_T53 t384 x11_1).f1)) ∧ w'.cell? (ad396.add ((x12_2).toNat * 7)) = some (.bool ((rd_T50 ((rd_T53 t384 x11_1).f0) x12_2).f0)) ∧ w'.cell? ⟨(ad396.add ((x12_2).toNat * 7)).block, (ad396.add ((x12_2).toNat * 7)).off + 1, none⟩ = some (.int .i64 ((rd_T50 ((rd_T53 t384 x11_1).f0) x12_2).f1)) ∧ w'.cell? ⟨(ad396.add ((x12_2).toNat * 7)).block, (ad396.add ((x12_2).toNat * 7)).off + 2, none⟩ = some (.int .i64 ((rd_T50 ((rd_T53 t384 x11_1).f0) x12_2).f2)) ∧ w'.cell? ⟨(ad396.add ((x12_2).toNat * 7)).block, (ad396.add ((x12_2).toNat * 7)).off + 3, none⟩ = some (.int .i64 ((rd_T50 ((rd_T53 t384 x11_1).f0) x12_2).f3)) ∧ w'.cell? ⟨(ad396.add ((x12_2).toNat * 7)).block, (ad396.add ((x12_2).toNat * 7)).off + 4, none⟩ = some (.int .u64 ((rd_T50 ((rd_T53 t384 x11_1).f0) x12_2).f4)) ∧ w'.cell? ⟨(ad396.add ((x12_2).toNat * 7)).block, (ad396.add ((x12_2).toNat * 7)).off + 5, none⟩ = some (.int .u64 ((rd_T50 ((rd_T53 t384 x11_1).f0) x12_2).f5)) ∧ w'.cell? ⟨(ad396.add ((x12_2).toNat * 7)).block, (ad396.add ((x12_2).toNat * 7)).off + 6, none⟩ = some (.int .u64 ((rd_T50 ((rd_T53 t384 x11_1).f0) x12_2).f6)) ∧ w'.cell? (ad394.add ((x11_1).toNat * 2)) = some (.slice (some ad399) ((rd_T46 l0 x11_1).f0).length c398_0) ∧ w'.cell? ⟨(ad394.add ((x11_1).toNat * 2)).block, (ad394.add ((x11_1).toNat * 2)).off + 1, none⟩ = some (.int .u32 ((rd_T46 l0 x11_1).f1)) ∧ w'.cell? (ad399.add ((x12_2).toNat * 7)) = some (.bool ((rd_T55 ((rd_T46 l0 x11_1).f0) x12_2).f0)) ∧ w'.cell? ⟨(ad399.add ((x12_2).toNat * 7)).block, (ad399.add ((x12_2).toNat * 7)).off + 1, none⟩ = some (.int .i64 ((rd_T55 ((rd_T46 l0 x11_1).f0) x12_2).f1)) ∧ w'.cell? ⟨(ad399.add ((x12_2).toNat * 7)).block, (ad399.add ((x12_2).toNat * 7)).off + 2, none⟩ = some (.int .i64 ((rd_T55 ((rd_T46 l0 x11_1).f0) x12_2).f2)) ∧ w'.cell? ⟨(ad399.add ((x12_2).toNat * 7)).block, (ad399.add ((x12_2).toNat * 7)).off + 3, none⟩ = some (.int .i64 ((rd_T55 ((rd_T46 l0 x11_1).f0) x12_2).f3)) ∧ w'.cell? ⟨(ad399.add ((x12_2).toNat * 7)).block, (ad399.add ((x12_2).toNat * 7)).off + 4, none⟩ = some (.int .u64 ((rd_T55 ((rd_T46 l0 x11_1).f0) x12_2).f4)) ∧ w'.cell? ⟨(ad399.add ((x12_2).toNat * 7)).block, (ad399.add ((x12_2).toNat * 7)).off + 5, none⟩ = some (.int .u64 ((rd_T55 ((rd_T46 l0 x11_1).f0) x12_2).f5)) ∧ w'.cell? ⟨(ad399.add ((x12_2).toNat * 7)).block, (ad399.add ((x12_2).toNat * 7)).off + 6, none⟩ = some (.int .u64 ((rd_T55 ((rd_T46 l0 x11_1).f0) x12_2).f6))) (ds := []) #[false, false, false, false, false, false, false, false, false, false, false, false, false, false, false, false, false, false, false, false, false, false, false, false, false, false] (by kernel_rfl) rfl rfl ⟨(blk_cell BK381.out 0).trans rfl, (blk_cell BK381.out 1).trans rfl, hx395_0, hx395_1, hx396_0, hx396_1, hx396_2, hx396_3, hx396_4, hx396_5, hx396_6, ((HB.out.cell (World.block_lt_of_cell? w _ hw398_0)).trans hw398_0), ((HB.out.cell (World.block_lt_of_cell? w _ hw398_1)).trans hw398_1), ((HB.out.cell (World.block_lt_of_cell? w _ hw399_0)).trans hw399_0), ((HB.out.cell (World.block_lt_of_cell? w _ hw399_1)).trans hw399_1), ((HB.out.cell (World.block_lt_of_cell? w _ hw399_2)).trans hw399_2), ((HB.out.cell (World.block_lt_of_cell? w _ hw399_3)).trans hw399_3), ((HB.out.cell (World.block_lt_of_cell? w _ hw399_4)).trans hw399_4), ((HB.out.cell (World.block_lt_of_cell? w _ hw399_5)).trans hw399_5), ((HB.out.cell (World.block_lt_of_cell? w _ hw399_6)).trans hw399_6)⟩ (fun hHeld => ?_); refine with_tabW stockadelaw18_RuleJudges.tab13 stockadelaw18_RuleJudges.bits13 (fun HT_ HW_ => ?_)
               generalize wr.drew = w32 at HO_5 HO_6 BK381 HB HL395_0 HR395_0 HR398_0 hx395_0 hx395_1 hx396_0 hx396_1 hx396_2 hx396_3 hx396_4 hx396_5 hx396_6 hx398_0 hx398_1 hx399_0 hx399_1 hx399_2 hx399_3 hx399_4 hx399_5 hx399_6 hHeld ⊢
               refine pure_ (i := 0) (N := some 55) (v := ?_) (a' := ?_) #[true, false, false, false, false, false, false, false, false, false, false, false, false, false, false, false, false, false, false, false, false, false, false, false, false, false] rfl rfl (any_of HT_.out (by kernel_rfl)) (fun _ _ _ h => h) (Or.inl ⟨by rfl, ?_⟩) ?_ ?_
               rotate_left
               ·intro w'
                go_simp
                with_reducible rfl
               rotate_left
               ·simp only [Act.put, List.setIfInBounds_toArray, List.set_cons_zero, List.set_cons_succ, i64_w, i32_w]
                rfl
               refine pure_ (i := 1) (N := some 56) (v := ?_) (a' := ?_) #[true, true, false, false, false, false, false, false, false, false, false, false, false, false, false, false, false, false, false, false, false, false, false, false, false, false] rfl rfl (any_of HT_.out (by kernel_rfl)) (fun _ _ _ h => h) (Or.inl ⟨by rfl, ?_⟩) ?_ ?_
               rotate_left
               ·intro w'
                go_simp
                with_reducible rfl
               rotate_left
               ·simp only [Act.put, List.setIfInBounds_toArray, List.set_cons_zero, List.set_cons_succ, i64_w, i32_w]
                rfl
               refine pure_ (i := 2) (N := some 57) (v := ?_) (a' := ?_) #[true, true, true, false, false, false, false, false, false, false, false, false, false, false, false, false, false, false, false, false, false, false, false, false, false, false] rfl rfl (any_of HT_.out (by kernel_rfl)) (fun _ _ _ h => h) (Or.inl ⟨by rfl, ?_⟩) ?_ ?_
               rotate_left
               ·intro w'
                go_simp
                with_reducible rfl
               rotate_left
               ·simp only [Act.put, List.setIfInBounds_toArray, List.set_cons_zero, List.set_cons_succ, i64_w, i32_w]
                rfl
               refine pure_ (i := 3) (N := some 58) (v := ?_) (a' := ?_) #[true, true, true, true, false, false, false, false, false, false, false, false, false, false, false, false, false, false, false, false, false, false, false, false, false, false] rfl rfl (any_of HT_.out (by kernel_rfl)) (fun _ _ _ h => h) (Or.inl ⟨by rfl, ?_⟩) ?_ ?_
               rotate_left
               ·intro w'
                go_simp
                with_reducible rfl
               rotate_left
               ·simp only [Act.put, List.setIfInBounds_toArray, List.set_cons_zero, List.set_cons_succ, i64_w, i32_w]
                rfl
               refine pure_ (i := 5) (N := some 60) (v := ?_) (a' := ?_) #[true, true, true, true, false, true, false, false, false, false, false, false, false, false, false, false, false, false, false, false, false, false, false, false, false, false] rfl rfl (any_of HT_.out (by kernel_rfl)) (fun _ _ _ h => h) (Or.inl ⟨by rfl, ?_⟩) ?_ ?_
               rotate_left
               ·intro w'
                go_simp
                with_reducible rfl
               rotate_left
               ·simp only [Act.put, List.setIfInBounds_toArray, List.set_cons_zero, List.set_cons_succ, i64_w, i32_w]
                rfl
               refine pure_ (i := 8) (N := some 63) (v := ?_) (a' := ?_) #[true, true, true, true, false, true, false, false, true, false, false, false, false, false, false, false, false, false, false, false, false, false, false, false, false, false] rfl rfl (any_of HT_.out (by kernel_rfl)) (fun _ _ _ h => h) (Or.inl ⟨by rfl, ?_⟩) ?_ ?_
               rotate_left
               ·intro w'
                go_simp
                with_reducible rfl
               rotate_left
               ·simp only [Act.put, List.setIfInBounds_toArray, List.set_cons_zero, List.set_cons_succ, i64_w, i32_w]
                rfl
               refine pure_ (i := 9) (N := some 64) (v := ?_) (a' := ?_) #[true, true, true, true, false, true, false, false, true, true, false, false, false, false, false, false, false, false, false, false, false, false, false, false, false, false] rfl rfl (any_of HT_.out (by kernel_rfl)) (fun _ _ _ h => h) (Or.inl ⟨by rfl, ?_⟩) ?_ ?_
               rotate_left
               ·intro w'
                go_simp
                with_reducible rfl
               rotate_left
               ·simp only [Act.put, List.setIfInBounds_toArray, List.set_cons_zero, List.set_cons_succ, i64_w, i32_w]
                rfl
               refine pure_ (i := 12) (N := some 67) (v := ?_) (a' := ?_) #[true, true, true, true, false, true, false, false, true, true, false, false, true, false, false, false, false, false, false, false, false, false, false, false, false, false] rfl rfl (any_of HT_.out (by kernel_rfl)) (fun _ _ _ h => h) (Or.inl ⟨by rfl, ?_⟩) ?_ ?_
               rotate_left
               ·intro w'
                go_simp
                with_reducible rfl
               rotate_left
               ·simp only [Act.put, List.setIfInBounds_toArray, List.set_cons_zero, List.set_cons_succ, i64_w, i32_w]
                rfl
               refine pure_ (i := 13) (N := some 68) (v := ?_) (a' := ?_) #[true, true, true, true, false, true, false, false, true, true, false, false, true, true, false, false, false, false, false, false, false, false, false, false, false, false] rfl rfl (any_of HT_.out (by kernel_rfl)) (fun _ _ _ h => h) (Or.inl ⟨by rfl, ?_⟩) ?_ ?_
               rotate_left
               ·intro w'
                go_simp
                with_reducible rfl
               rotate_left
               ·simp only [Act.put, List.setIfInBounds_toArray, List.set_cons_zero, List.set_cons_succ, i64_w, i32_w]
                rfl
               refine pure_ (i := 14) (N := some 69) (v := ?_) (a' := ?_) #[true, true, true, true, false, true, false, false, true, true, false, false, true, true, true, false, false, false, false, false, false, false, false, false, false, false] rfl rfl (any_of HT_.out (by kernel_rfl)) (fun _ _ _ h => h) (Or.inl ⟨by rfl, ?_⟩) ?_ ?_
               rotate_left
               ·intro w'
                go_simp
                with_reducible rfl
               rotate_left
               ·simp only [Act.put, List.setIfInBounds_toArray, List.set_cons_zero, List.set_cons_succ, i64_w, i32_w]
                rfl
               refine pure_ (i := 15) (N := some 70) (v := ?_) (a' := ?_) #[true, true, true, true, false, true, false, false, true, true, false, false, true, true, true, true, false, false, false, false, false, false, false, false, false, false] rfl rfl (any_of HT_.out (by kernel_rfl)) (fun _ _ _ h => h) (Or.inl ⟨by rfl, ?_⟩) ?_ ?_
               rotate_left
               ·intro w'
                go_simp
                with_reducible rfl
               rotate_left
               ·simp only [Act.put, List.setIfInBounds_toArray, List.set_cons_zero, List.set_cons_succ, i64_w, i32_w]
                rfl
               refine pure_ (i := 17) (N := some 72) (v := ?_) (a' := ?_) #[true, true, true, true, false, true, false, false, true, true, false, false, true, true, true, true, false, true, false, false, false, false, false, false, false, false] rfl rfl (any_of HT_.out (by kernel_rfl)) (fun _ _ _ h => h) (Or.inl ⟨by rfl, ?_⟩) ?_ ?_
               rotate_left
               ·intro w'
                go_simp
                with_reducible rfl
               rotate_left
               ·simp only [Act.put, List.setIfInBounds_toArray, List.set_cons_zero, List.set_cons_succ, i64_w, i32_w]
                rfl
               refine pure_ (i := 20) (N := some 75) (v := ?_) (a' := ?_) #[true, true, true, true, false, true, false, false, true, true, false, false, true, true, true, true, false, true, false, false, true, false, false, false, false, false] rfl rfl (any_of HT_.out (by kernel_rfl)) (fun _ _ _ h => h) (Or.inl ⟨by rfl, ?_⟩) ?_ ?_
               rotate_left
               ·intro w'
                go_simp
                with_reducible rfl
               rotate_left
               ·simp only [Act.put, List.setIfInBounds_toArray, List.set_cons_zero, List.set_cons_succ, i64_w, i32_w]
                rfl
               refine pure_ (i := 22) (N := some 77) (v := ?_) (a' := ?_) #[true, true, true, true, false, true, false, false, true, true, false, false, true, true, true, true, false, true, false, false, true, false, true, false, false, false] rfl rfl (any_of HT_.out (by kernel_rfl)) (fun _ _ _ h => h) (Or.inl ⟨by rfl, ?_⟩) ?_ ?_
               rotate_left
               ·intro w'
                go_simp
                with_reducible rfl
               rotate_left
               ·simp only [Act.put, List.setIfInBounds_toArray, List.set_cons_zero, List.set_cons_succ, i64_w, i32_w]
                rfl
               refine take_ (i := 4) (N := some 59) (v := ?_) (a' := ?_) #[true, true, true, true, true, true, false, false, true, true, false, false, true, true, true, true, false, true, false, false, true, false, true, false, false, false] rfl rfl (take_ofW HT_.out HW_.out (by kernel_rfl)) (fun _ _ _ h => h) (Or.inl ⟨by rfl, ?_⟩) hHeld ?_ ?_
               rotate_left
               ·rintro w' ⟨s0, s1, s2, s3, s4, s5, s6, s7, s8, s9, s10, s11, s12, s13, s14, s15, s16, s17, s18, s19⟩
                go_simp
                with_reducible rfl
               rotate_left
               ·simp only [Act.put, List.setIfInBounds_toArray, List.set_cons_zero, List.set_cons_succ, i64_w, i32_w]
                rfl
               refine pure_ (i := 6) (N := some 61) (v := ?_) (a' := ?_) #[true, true, true, true, true, true, true, false, true, true, false, false, true, true, true, true, false, true, false, false, true, false, true, false, false, false] rfl rfl (any_of HT_.out (by kernel_rfl)) (fun _ _ _ h => h) (Or.inl ⟨by rfl, ?_⟩) ?_ ?_
               rotate_left
               ·intro w'
                go_simp
                with_reducible rfl
               rotate_left
               ·simp only [Act.put, List.setIfInBounds_toArray, List.set_cons_zero, List.set_cons_succ, i64_w, i32_w]
                rfl
               refine take_ (i := 7) (N := some 62) (v := ?_) (a' := ?_) #[true, true, true, true, true, true, true, true, true, true, false, false, true, true, true, true, false, true, false, false, true, false, true, false, false, false] rfl rfl (take_ofW HT_.out HW_.out (by kernel_rfl)) (fun _ _ _ h => h) (Or.inl ⟨by rfl, ?_⟩) hHeld ?_ ?_
               rotate_left
               ·rintro w' ⟨s0, s1, s2, s3, s4, s5, s6, s7, s8, s9, s10, s11, s12, s13, s14, s15, s16, s17, s18, s19⟩
                go_simp
                with_reducible rfl
               rotate_left
               ·simp only [Act.put, List.setIfInBounds_toArray, List.set_cons_zero, List.set_cons_succ, i64_w, i32_w]
                rfl
               refine take_ (i := 10) (N := some 65) (v := ?_) (a' := ?_) #[true, true, true, true, true, true, true, true, true, true, true, false, true, true, true, true, false, true, false, false, true, false, true, false, false, false] rfl rfl (take_ofW HT_.out HW_.out (by kernel_rfl)) (fun _ _ _ h => h) (Or.inl ⟨by rfl, ?_⟩) hHeld ?_ ?_
               rotate_left
               ·rintro w' ⟨s0, s1, s2, s3, s4, s5, s6, s7, s8, s9, s10, s11, s12, s13, s14, s15, s16, s17, s18, s19⟩
                go_simp
                with_reducible rfl
               rotate_left
               ·simp only [Act.put, List.setIfInBounds_toArray, List.set_cons_zero, List.set_cons_succ, i64_w, i32_w]
                rfl
               refine take_ (i := 16) (N := some 71) (v := ?_) (a' := ?_) #[true, true, true, true, true, true, true, true, true, true, true, false, true, true, true, true, true, true, false, false, true, false, true, false, false, false] rfl rfl (take_ofW HT_.out HW_.out (by kernel_rfl)) (fun _ _ _ h => h) (Or.inl ⟨by rfl, ?_⟩) hHeld ?_ ?_
               rotate_left
               ·rintro w' ⟨s0, s1, s2, s3, s4, s5, s6, s7, s8, s9, s10, s11, s12, s13, s14, s15, s16, s17, s18, s19⟩
                go_simp
                with_reducible rfl
               rotate_left
               ·simp only [Act.put, List.setIfInBounds_toArray, List.set_cons_zero, List.set_cons_succ, i64_w, i32_w]
                rfl
               refine pure_ (i := 18) (N := some 73) (v := ?_) (a' := ?_) #[true, true, true, true, true, true, true, true, true, true, true, false, true, true, true, true, true, true, true, false, true, false, true, false, false, false] rfl rfl (any_of HT_.out (by kernel_rfl)) (fun _ _ _ h => h) (Or.inl ⟨by rfl, ?_⟩) ?_ ?_
               rotate_left
               ·intro w'
                go_simp
                with_reducible rfl
               rotate_left
               ·simp only [Act.put, List.setIfInBounds_toArray, List.set_cons_zero, List.set_cons_succ, i64_w, i32_w]
                rfl
               refine take_ (i := 19) (N := some 74) (v := ?_) (a' := ?_) #[true, true, true, true, true, true, true, true, true, true, true, false, true, true, true, true, true, true, true, true, true, false, true, false, false, false] rfl rfl (take_ofW HT_.out HW_.out (by kernel_rfl)) (fun _ _ _ h => h) (Or.inl ⟨by rfl, ?_⟩) hHeld ?_ ?_
               rotate_left
               ·rintro w' ⟨s0, s1, s2, s3, s4, s5, s6, s7, s8, s9, s10, s11, s12, s13, s14, s15, s16, s17, s18, s19⟩
                go_simp
                with_reducible rfl
               rotate_left
               ·simp only [Act.put, List.setIfInBounds_toArray, List.set_cons_zero, List.set_cons_succ, i64_w, i32_w]
                rfl
               refine take_ (i := 21) (N := some 76) (v := ?_) (a' := ?_) #[true, true, true, true, true, true, true, true, true, true, true, false, true, true, true, true, true, true, true, true, true, true, true, false, false, false] rfl rfl (take_ofW HT_.out HW_.out (by kernel_rfl)) (fun _ _ _ h => h) (Or.inl ⟨by rfl, ?_⟩) hHeld ?_ ?_
               rotate_left
               ·rintro w' ⟨s0, s1, s2, s3, s4, s5, s6, s7, s8, s9, s10, s11, s12, s13, s14, s15, s16, s17, s18, s19⟩
                go_simp
                with_reducible rfl
               rotate_left
               ·simp only [Act.put, List.setIfInBounds_toArray, List.set_cons_zero, List.set_cons_succ, i64_w, i32_w]
                rfl
               refine take_ (i := 23) (N := some 78) (v := ?_) (a' := ?_) #[true, true, true, true, true, true, true, true, true, true, true, false, true, true, true, true, true, true, true, true, true, true, true, true, false, false] rfl rfl (take_ofW HT_.out HW_.out (by kernel_rfl)) (fun _ _ _ h => h) (Or.inl ⟨by rfl, ?_⟩) hHeld ?_ ?_
               rotate_left
               ·rintro w' ⟨s0, s1, s2, s3, s4, s5, s6, s7, s8, s9, s10, s11, s12, s13, s14, s15, s16, s17, s18, s19⟩
                go_simp
                with_reducible rfl
               rotate_left
               ·simp only [Act.put, List.setIfInBounds_toArray, List.set_cons_zero, List.set_cons_succ, i64_w, i32_w]
                rfl
               refine one_ (i := 11) (N := some 66) #[true, true, true, true, true, true, true, true, true, true, true, true, true, true, true, true, true, true, true, true, true, true, true, true, false, false] rfl rfl (one_of HT_.out (by kernel_rfl)) (by decide) (fun K hK => ?_)
               refine goes_ Tryd.func20 (by kernel_rfl) rfl #[.agg #[.bool ((rd_T50 ((rd_T53 t384 x11_1).f0) x12_2).f0), .int .i64 ((rd_T50 ((rd_T53 t384 x11_1).f0) x12_2).f1), .int .i64 ((rd_T50 ((rd_T53 t384 x11_1).f0) x12_2).f2), .int .i64 ((rd_T50 ((rd_T53 t384 x11_1).f0) x12_2).f3), .int .u64 ((rd_T50 ((rd_T53 t384 x11_1).f0) x12_2).f4), .int .u64 ((rd_T50 ((rd_T53 t384 x11_1).f0) x12_2).f5), .int .u64 ((rd_T50 ((rd_T53 t384 x11_1).f0) x12_2).f6)], .slice Ao18 y387.length co18, .int .u32 a1_1] (by rfl) rfl rfl (by (try simp only [List.map_toArray, List.map_cons, List.map_nil]); first | done | rfl | (simp only [List.length_drop, List.length_take]; rfl)) ?_
               with_reducible refine (rule_Holds.calls k2 ((rd_T50 ((rd_T53 t384 x11_1).f0) x12_2).f0) ((rd_T50 ((rd_T53 t384 x11_1).f0) x12_2).f1) ((rd_T50 ((rd_T53 t384 x11_1).f0) x12_2).f2) ((rd_T50 ((rd_T53 t384 x11_1).f0) x12_2).f3) ((rd_T50 ((rd_T53 t384 x11_1).f0) x12_2).f4) ((rd_T50 ((rd_T53 t384 x11_1).f0) x12_2).f5) ((rd_T50 ((rd_T53 t384 x11_1).f0) x12_2).f6) _ _ y387 a1_1 t397 _ ?side1 ?side2 A29.out).mono ?_
               (case side1 => repeat (first | exact (Kd.R_reads' HO_6.out).2.2 | (with_reducible refine Kd.C_alloc ?_ _) | (with_reducible refine Kd.C_drewN ?_ _) | (with_reducible refine Kd.C_drew ?_)))
               (case side2 => exact (Kd.R_reads' HO_6.out).2.1)
               rintro e w33 ⟨rfl, hb⟩
               have HS2_ := (hb.cell (World.block_lt_of_cell? _ _ (hHeld.2.2.1))).trans (hHeld.2.2.1)
               have HS3_ := (hb.cell (World.block_lt_of_cell? _ _ (hHeld.2.2.2.1))).trans (hHeld.2.2.2.1)
               have HS4_ := (hb.cell (World.block_lt_of_cell? _ _ (hHeld.2.2.2.2.1))).trans (hHeld.2.2.2.2.1)
               have HS5_ := (hb.cell (World.block_lt_of_cell? _ _ (hHeld.2.2.2.2.2.1))).trans (hHeld.2.2.2.2.2.1)
               have HS6_ := (hb.cell (World.block_lt_of_cell? _ _ (hHeld.2.2.2.2.2.2.1))).trans (hHeld.2.2.2.2.2.2.1)
               have HS7_ := (hb.cell (World.block_lt_of_cell? _ _ (hHeld.2.2.2.2.2.2.2.1))).trans (hHeld.2.2.2.2.2.2.2.1)
               have HS8_ := (hb.cell (World.block_lt_of_cell? _ _ (hHeld.2.2.2.2.2.2.2.2.1))).trans (hHeld.2.2.2.2.2.2.2.2.1)
               have HS9_ := (hb.cell (World.block_lt_of_cell? _ _ (hHeld.2.2.2.2.2.2.2.2.2.1))).trans (hHeld.2.2.2.2.2.2.2.2.2.1)
               have HS10_ := (hb.cell (World.block_lt_of_cell? _ _ (hHeld.2.2.2.2.2.2.2.2.2.2.1))).trans (hHeld.2.2.2.2.2.2.2.2.2.2.1)
               refine ⟨_, rfl, ?_⟩
               have n0_ := Aside0.mk (Kd.S_below (by (with_reducible repeat (first | apply Kd.S_alloc | apply Kd.S_drewN | apply Kd.S_drew)); exact HO_5.out) hb)
               have n1_ := Aside0.mk (Kd.R_below (by (with_reducible repeat (first | apply Kd.R_alloc | apply Kd.R_drewN | apply Kd.R_drew)); exact HO_6.out) hb)
               have n2_ := Aside0.mk (Kd.R_below (by (with_reducible repeat (first | apply Kd.R_alloc | apply Kd.R_drewN | apply Kd.R_drew)); exact HL395_0.out) hb)
               have n3_ := Aside0.mk (blk_below (g := gb381) (o := .cells #[.slice A1_0 l1_0.length c1_0, .int .u32 a1_1] 40 (0, 0)) bk_now hb)
               have n4_ := Aside0.mk (Kd.C_below (by repeat (first | (with_reducible exact HR395_0.out) | (with_reducible refine Kd.C_alloc ?_ _) | (with_reducible refine Kd.C_drewN ?_ _) | (with_reducible refine Kd.C_drew ?_) | exact HR395_0.out)) hb)
               have n5_ := Aside0.mk (below_step b_now hb)
               clear HO_5
               clear HO_6
               clear HL395_0
               clear BK381
               clear HR395_0
               clear HB
               have HO_5 := n0_
               have HO_6 := n1_
               have HL395_0 := n2_
               have BK381 := n3_
               have HR395_0 := n4_
               have HB := n5_
               clear n0_ n1_ n2_ n3_ n4_ n5_
               (try clear hb)
               (try clear hb2)
               (try clear hk)
               (try clear hi)
               refine hK.out _ _ ⟨(blk_cell BK381.out 0).trans rfl, (blk_cell BK381.out 1).trans rfl, HS2_, HS3_, HS4_, HS5_, HS6_, HS7_, HS8_, HS9_, HS10_, ((HB.out.cell (World.block_lt_of_cell? w _ hw398_0)).trans hw398_0), ((HB.out.cell (World.block_lt_of_cell? w _ hw398_1)).trans hw398_1), ((HB.out.cell (World.block_lt_of_cell? w _ hw399_0)).trans hw399_0), ((HB.out.cell (World.block_lt_of_cell? w _ hw399_1)).trans hw399_1), ((HB.out.cell (World.block_lt_of_cell? w _ hw399_2)).trans hw399_2), ((HB.out.cell (World.block_lt_of_cell? w _ hw399_3)).trans hw399_3), ((HB.out.cell (World.block_lt_of_cell? w _ hw399_4)).trans hw399_4), ((HB.out.cell (World.block_lt_of_cell? w _ hw399_5)).trans hw399_5), ((HB.out.cell (World.block_lt_of_cell? w _ hw399_6)).trans hw399_6)⟩ (fun hHeld => ?_)
               clear hK K
               refine norm_ (a' := ?_) ?_ ?_
               rotate_left
               ·show Act.put _ (some 66) _ = _
                simp only [Act.put, List.setIfInBounds_toArray, List.set_cons_zero, List.set_cons_succ, i64_w, i32_w]
                rfl
               refine one_ (i := 24) (N := some 79) #[true, true, true, true, true, true, true, true, true, true, true, true, true, true, true, true, true, true, true, true, true, true, true, true, true, false] rfl rfl (one_of HT_.out (by kernel_rfl)) (by decide) (fun K hK => ?_)
               refine goes_ Tryd.func21 (by kernel_rfl) rfl #[.agg #[.bool ((rd_T55 ((rd_T46 l0 x11_1).f0) x12_2).f0), .int .i64 ((rd_T55 ((rd_T46 l0 x11_1).f0) x12_2).f1), .int .i64 ((rd_T55 ((rd_T46 l0 x11_1).f0) x12_2).f2), .int .i64 ((rd_T55 ((rd_T46 l0 x11_1).f0) x12_2).f3), .int .u64 ((rd_T55 ((rd_T46 l0 x11_1).f0) x12_2).f4), .int .u64 ((rd_T55 ((rd_T46 l0 x11_1).f0) x12_2).f5), .int .u64 ((rd_T55 ((rd_T46 l0 x11_1).f0) x12_2).f6)], .slice A1_0 l1_0.length c1_0, .int .u32 a1_1] (by rfl) rfl rfl (by (try simp only [List.map_toArray, List.map_cons, List.map_nil]); first | done | rfl | (simp only [List.length_drop, List.length_take]; rfl)) ?_
               with_reducible refine (stockaderef18_Holds.calls k2 ((rd_T55 ((rd_T46 l0 x11_1).f0) x12_2).f0) ((rd_T55 ((rd_T46 l0 x11_1).f0) x12_2).f1) ((rd_T55 ((rd_T46 l0 x11_1).f0) x12_2).f2) ((rd_T55 ((rd_T46 l0 x11_1).f0) x12_2).f3) ((rd_T55 ((rd_T46 l0 x11_1).f0) x12_2).f4) ((rd_T55 ((rd_T46 l0 x11_1).f0) x12_2).f5) ((rd_T55 ((rd_T46 l0 x11_1).f0) x12_2).f6) _ _ l1_0 a1_1 t400 _ ?side1 ?side2 A30.out).mono ?_
               (case side1 => repeat (first | exact (Kd.C_below HR1_0.out HB.out) | (with_reducible refine Kd.C_alloc ?_ _) | (with_reducible refine Kd.C_drewN ?_ _) | (with_reducible refine Kd.C_drew ?_)))
               (case side2 => exact HC1_0.out)
               rintro e w34 ⟨rfl, hb⟩
               have HS2_ := (hb.cell (World.block_lt_of_cell? _ _ (hHeld.2.2.1))).trans (hHeld.2.2.1)
               have HS3_ := (hb.cell (World.block_lt_of_cell? _ _ (hHeld.2.2.2.1))).trans (hHeld.2.2.2.1)
               have HS4_ := (hb.cell (World.block_lt_of_cell? _ _ (hHeld.2.2.2.2.1))).trans (hHeld.2.2.2.2.1)
               have HS5_ := (hb.cell (World.block_lt_of_cell? _ _ (hHeld.2.2.2.2.2.1))).trans (hHeld.2.2.2.2.2.1)
               have HS6_ := (hb.cell (World.block_lt_of_cell? _ _ (hHeld.2.2.2.2.2.2.1))).trans (hHeld.2.2.2.2.2.2.1)
               have HS7_ := (hb.cell (World.block_lt_of_cell? _ _ (hHeld.2.2.2.2.2.2.2.1))).trans (hHeld.2.2.2.2.2.2.2.1)
               have HS8_ := (hb.cell (World.block_lt_of_cell? _ _ (hHeld.2.2.2.2.2.2.2.2.1))).trans (hHeld.2.2.2.2.2.2.2.2.1)
               have HS9_ := (hb.cell (World.block_lt_of_cell? _ _ (hHeld.2.2.2.2.2.2.2.2.2.1))).trans (hHeld.2.2.2.2.2.2.2.2.2.1)
               have HS10_ := (hb.cell (World.block_lt_of_cell? _ _ (hHeld.2.2.2.2.2.2.2.2.2.2.1))).trans (hHeld.2.2.2.2.2.2.2.2.2.2.1)
               refine ⟨_, rfl, ?_⟩
               have n0_ := Aside0.mk (Kd.S_below (by (with_reducible repeat (first | apply Kd.S_alloc | apply Kd.S_drewN | apply Kd.S_drew)); exact HO_5.out) hb)
               have n1_ := Aside0.mk (Kd.R_below (by (with_reducible repeat (first | apply Kd.R_alloc | apply Kd.R_drewN | apply Kd.R_drew)); exact HO_6.out) hb)
               have n2_ := Aside0.mk (Kd.R_below (by (with_reducible repeat (first | apply Kd.R_alloc | apply Kd.R_drewN | apply Kd.R_drew)); exact HL395_0.out) hb)
               have n3_ := Aside0.mk (blk_below (g := gb381) (o := .cells #[.slice A1_0 l1_0.length c1_0, .int .u32 a1_1] 40 (0, 0)) bk_now hb)
               have n4_ := Aside0.mk (Kd.C_below (by repeat (first | (with_reducible exact HR395_0.out) | (with_reducible refine Kd.C_alloc ?_ _) | (with_reducible refine Kd.C_drewN ?_ _) | (with_reducible refine Kd.C_drew ?_) | exact HR395_0.out)) hb)
               have n5_ := Aside0.mk (below_step b_now hb)
               clear HO_5
               clear HO_6
               clear HL395_0
               clear BK381
               clear HR395_0
               clear HB
               have HO_5 := n0_
               have HO_6 := n1_
               have HL395_0 := n2_
               have BK381 := n3_
               have HR395_0 := n4_
               have HB := n5_
               clear n0_ n1_ n2_ n3_ n4_ n5_
               (try clear hb)
               (try clear hb2)
               (try clear hk)
               (try clear hi)
               refine hK.out _ _ ⟨(blk_cell BK381.out 0).trans rfl, (blk_cell BK381.out 1).trans rfl, HS2_, HS3_, HS4_, HS5_, HS6_, HS7_, HS8_, HS9_, HS10_, ((HB.out.cell (World.block_lt_of_cell? w _ hw398_0)).trans hw398_0), ((HB.out.cell (World.block_lt_of_cell? w _ hw398_1)).trans hw398_1), ((HB.out.cell (World.block_lt_of_cell? w _ hw399_0)).trans hw399_0), ((HB.out.cell (World.block_lt_of_cell? w _ hw399_1)).trans hw399_1), ((HB.out.cell (World.block_lt_of_cell? w _ hw399_2)).trans hw399_2), ((HB.out.cell (World.block_lt_of_cell? w _ hw399_3)).trans hw399_3), ((HB.out.cell (World.block_lt_of_cell? w _ hw399_4)).trans hw399_4), ((HB.out.cell (World.block_lt_of_cell? w _ hw399_5)).trans hw399_5), ((HB.out.cell (World.block_lt_of_cell? w _ hw399_6)).trans hw399_6)⟩ (fun hHeld => ?_)
               clear hK K
               refine norm_ (a' := ?_) ?_ ?_
               rotate_left
               ·show Act.put _ (some 79) _ = _
                simp only [Act.put, List.setIfInBounds_toArray, List.set_cons_zero, List.set_cons_succ, i64_w, i32_w]
                rfl
               refine pure_ (i := 25) (N := some 80) (v := ?_) (a' := ?_) #[true, true, true, true, true, true, true, true, true, true, true, true, true, true, true, true, true, true, true, true, true, true, true, true, true, true] rfl rfl (any_of HT_.out (by kernel_rfl)) (fun _ _ _ h => h) (Or.inl ⟨by rfl, ?_⟩) ?_ ?_
               rotate_left
               ·intro w'
                go_simp
                with_reducible rfl
               rotate_left
               ·simp only [Act.put, List.setIfInBounds_toArray, List.set_cons_zero, List.set_cons_succ, i64_w, i32_w]
                rfl
               refine done_ (done_of HT_.out (by kernel_rfl)) ?_
               try go_wp2
               go_roundg k2
               case measure => have := HK1.out; have := HK2.out; omega
               case rel => exact ⟨(wrap64 (x12_2 + 1)), eq_now, H', ⟨by have := HK1.out; have := HK2.out; omega⟩, ⟨by (with_reducible repeat (first | apply Kd.S_alloc | apply Kd.S_drewN | apply Kd.S_drew)); exact HO_5.out⟩, ⟨by (with_reducible repeat (first | apply Kd.R_alloc | apply Kd.R_drewN | apply Kd.R_drew)); exact HO_6.out⟩, ⟨bk_now⟩, ⟨b_now⟩⟩
             ·rw [if_neg c28] at H
              exact absurd H (by simp)
            ·rw [if_neg c27] at H
             exact absurd H (by simp)
           ·rw [if_neg c26] at H
            exact absurd H (by simp)
          ·rw [if_neg c25] at H
           have c25b0 : decide (x12_2 < (((rd_T46 l0 x11_1).f0).length : Int)) = false := decide_eq_false c25
           clear c25
           have H' := Aside0.mk H
           clear H
           have p394 : 0 ≤ (x11_1 : Int) := of_decide_eq_true (by first | (with_reducible assumption) | assumption)
           have q394 : x11_1 < (l0.length : Int) := of_decide_eq_true (by first | (with_reducible assumption) | assumption)
           obtain ⟨ad394, A394_0, c394_0, e394, hx394_0, hx394_1, hl394_0, hi394_0⟩ := at_T46 HR0.out x11_1 p394 q394
           cases e394
           replace hx394_0 := (HB.out.cell (World.block_lt_of_cell? w _ hx394_0)).trans hx394_0
           replace hx394_1 := (HB.out.cell (World.block_lt_of_cell? w _ hx394_1)).trans hx394_1
           have HR394_0 := Aside0.mk hi394_0
           have HC394_0 := Aside0.mk hl394_0
           clear hi394_0 hl394_0
           replace p394 := eq_true p394
           replace q394 := eq_true q394
           go_wp2
           go_roundg k2
           case measure => have := HK1.out; have := HK2.out; omega
           case rel => exact ⟨(wrap64 (x11_1 + 1)), eq_now, H', ⟨by have := HK1.out; have := HK2.out; omega⟩, ⟨by (with_reducible repeat (first | apply Kd.S_alloc | apply Kd.S_drewN | apply Kd.S_drew)); exact HO_5.out⟩, ⟨by (with_reducible repeat (first | apply Kd.R_alloc | apply Kd.R_drewN | apply Kd.R_drew)); exact HO_6.out⟩, ⟨bk_now⟩, ⟨b_now⟩⟩
         ·rw [if_neg c24] at H
          exact absurd H (by simp)
        ·rw [if_neg c23] at H
         exact absurd H (by simp)
     ·rw [if_neg c22] at H
      have c22b0 : decide (x11_1 < (l0.length : Int)) = false := decide_eq_false c22
      clear c22
      have H' := Aside0.mk H
      clear H
      go_wp2
      go_loopg [13] k1 (fun kq v13 w' => ∃ (x13_2 : Int), v13 = .int .i64 x13_2 ∧ Aside0 (stockadelaw18_RuleJudges.l2 kq l0 t384 y387 t390 t391 t392 t393 x13_2 l1_0 a1_1 = some r) ∧ Aside0 (kq ≤ k1) ∧ Aside0 (Kd.S k53 53 w' w.heap.size (fun _ => True) (.slice Ao17 t384.length co17) t384) ∧ Aside0 (Kd.R (Kd.int .u8) 5 w' w.heap.size (fun _ => True) (.slice Ao18 y387.length co18) y387) ∧ Aside0 (w'.heap[gb381]? = some (.cells #[(.slice A1_0 l1_0.length c1_0), .int .u32 a1_1] 40 (0, 0))) ∧ Aside0 (Below w.heap.size w w'))
      case atStart => exact ⟨(0), eq_now, H', ⟨Nat.le_refl _⟩, ⟨by (with_reducible repeat (first | apply Kd.S_alloc | apply Kd.S_drewN | apply Kd.S_drew)); exact HO_5.out⟩, ⟨by (with_reducible repeat (first | apply Kd.R_alloc | apply Kd.R_drewN | apply Kd.R_drew)); exact HO_6.out⟩, ⟨bk_now⟩, ⟨b_now⟩⟩
      case round =>
       clear H'
       try clear c1
       try clear c2
       try clear p2
       try clear c3
       try clear p3
       try clear q3
       try clear hx3
       try clear c4
       try clear p6
       try clear c9
       try clear c10
       try clear c11
       try clear c12
       try clear c18
       try clear c19
       try clear c20
       try clear c21
       try clear c22
       try clear c22b0
       try clear c23
       try clear c23b0
       try clear c24
       try clear c24b0
       try clear c25
       try clear c25b0
       try clear c26
       try clear c26b0
       try clear c27
       try clear c27b0
       try clear c28
       try clear c28b0
       try clear c31
       try clear c31b0
       try clear c31b1
       try clear c31b2
       try clear hcz14
       try clear hcz16
       try clear hcz20
       try clear hx394_0
       try clear hx394_1
       try clear hx395_0
       try clear hx395_1
       try clear hx396_0
       try clear hx396_1
       try clear hx396_2
       try clear hx396_3
       try clear hx396_4
       try clear hx396_5
       try clear hx396_6
       try clear hx398_0
       try clear hx398_1
       try clear hx399_0
       try clear hx399_1
       try clear hx399_2
       try clear hx399_3
       try clear hx399_4
       try clear hx399_5
       try clear hx399_6
       try clear p2
       try clear p394
       try clear p395
       try clear p396
       try clear p398
       try clear p399
       try clear q394
       try clear q395
       try clear q396
       try clear q398
       try clear q399
       obtain ⟨x13_2, rfl, HA, HK2, HO_5, HO_6, BK381, HB⟩ := hrel
       cases gk with
       | zero => exact absurd HA.out (by simp [stockadelaw18_RuleJudges.l2])
       | succ k2 =>
        have H := HA.out
        clear HA
        simp only [stockadelaw18_RuleJudges.l2] at H
        by_cases c35 : x13_2 < (y387.length : Int)
        ·rw [if_pos c35] at H
         have c35b0 : decide (x13_2 < (y387.length : Int)) = true := decide_eq_true c35
         clear c35
         by_cases c36 : 0 ≤ x13_2
         ·rw [if_pos c36] at H
          have c36b0 : decide (0 ≤ x13_2) = true := decide_eq_true c36
          clear c36
          by_cases c37 : x13_2 < (l1_0.length : Int)
          ·rw [if_pos c37] at H
           have c37b0 : decide (x13_2 < (l1_0.length : Int)) = true := decide_eq_true c37
           clear c37
           by_cases c38 : (rd y387 x13_2) = (rd l1_0 x13_2)
           ·rw [if_pos c38] at H
            have c38b0 : ((rd y387 x13_2) == (rd l1_0 x13_2)) = true := beq_iff_eq.mpr c38
            have c38b1 : ((rd y387 x13_2) != (rd l1_0 x13_2)) = false := bne_eq_false_iff_eq.mpr c38
            clear c38
            have H' := Aside0.mk H
            clear H
            try go_wp2
            have n0_ := Aside0.mk (Kd.S_drew HO_5.out)
            have n1_ := Aside0.mk (Kd.R_drew HO_6.out)
            have n2_ := Aside0.mk (blk_drew BK381.out)
            have n3_ := Aside0.mk (below_drew1 HB.out)
            clear HO_5
            clear HO_6
            clear BK381
            clear HB
            have HO_5 := n0_
            have HO_6 := n1_
            have BK381 := n2_
            have HB := n3_
            clear n0_ n1_ n2_ n3_
            have p401 : 0 ≤ (x13_2 : Int) := of_decide_eq_true (by first | (with_reducible assumption) | assumption)
            have q401 : x13_2 < (y387.length : Int) := of_decide_eq_true (by first | (with_reducible assumption) | assumption)
            obtain ⟨ad401, e401, hx401_0⟩ := Kd.at_int (Kd.R_reads' HO_6.out).2.2 x13_2 p401 q401
            cases e401
            replace p401 := eq_true p401
            replace q401 := eq_true q401
            have p402 : 0 ≤ (x13_2 : Int) := of_decide_eq_true (by first | (with_reducible assumption) | assumption)
            have q402 : x13_2 < (l1_0.length : Int) := of_decide_eq_true (by first | (with_reducible assumption) | assumption)
            obtain ⟨ad402, e402, hx402_0⟩ := Kd.at_int HR1_0.out x13_2 p402 q402
            have hw402_0 := hx402_0
            cases e402
            replace hx402_0 := (HB.out.cell (World.block_lt_of_cell? w _ hx402_0)).trans hx402_0
            replace p402 := eq_true p402
            replace q402 := eq_true q402
            refine start_ (n := 10) (S := fun w' => w'.cell? ⟨gb381, 0, none⟩ = some (.slice (some ad402) l1_0.length c1_0) ∧ w'.cell? ⟨gb381, 1, none⟩ = some (.int .u32 a1_1) ∧ w'.cell? (ad401.add (x13_2).toNat) = some (.int .u8 (rd y387 x13_2)) ∧ w'.cell? (ad402.add (x13_2).toNat) = some (.int .u8 (rd l1_0 x13_2))) (ds := []) #[false, false, false, false, false, false, false, false, false, false] (by kernel_rfl) rfl rfl ⟨(blk_cell BK381.out 0).trans rfl, (blk_cell BK381.out 1).trans rfl, hx401_0, ((HB.out.cell (World.block_lt_of_cell? w _ hw402_0)).trans hw402_0)⟩ (fun hHeld => ?_); refine with_tabW stockadelaw18_RuleJudges.tab18 stockadelaw18_RuleJudges.bits18 (fun HT_ HW_ => ?_)
            generalize wr.drew = w39 at HO_5 HO_6 BK381 HB hx401_0 hx402_0 hHeld ⊢
            refine pure_ (i := 0) (N := some 87) (v := ?_) (a' := ?_) #[true, false, false, false, false, false, false, false, false, false] rfl rfl (any_of HT_.out (by kernel_rfl)) (fun _ _ _ h => h) (Or.inl ⟨by rfl, ?_⟩) ?_ ?_
            rotate_left
            ·intro w'
             go_simp
             with_reducible rfl
            rotate_left
            ·simp only [Act.put, List.setIfInBounds_toArray, List.set_cons_zero, List.set_cons_succ, i64_w, i32_w]
             rfl
            refine pure_ (i := 1) (N := some 88) (v := ?_) (a' := ?_) #[true, true, false, false, false, false, false, false, false, false] rfl rfl (any_of HT_.out (by kernel_rfl)) (fun _ _ _ h => h) (Or.inl ⟨by rfl, ?_⟩) ?_ ?_
            rotate_left
            ·intro w'
             go_simp
             with_reducible rfl
            rotate_left
            ·simp only [Act.put, List.setIfInBounds_toArray, List.set_cons_zero, List.set_cons_succ, i64_w, i32_w]
             rfl
            refine pure_ (i := 2) (N := some 89) (v := ?_) (a' := ?_) #[true, true, true, false, false, false, false, false, false, false] rfl rfl (any_of HT_.out (by kernel_rfl)) (fun _ _ _ h => h) (Or.inl ⟨by rfl, ?_⟩) ?_ ?_
            rotate_left
            ·intro w'
             go_simp
             with_reducible rfl
            rotate_left
            ·simp only [Act.put, List.setIfInBounds_toArray, List.set_cons_zero, List.set_cons_succ, i64_w, i32_w]
             rfl
            refine pure_ (i := 4) (N := some 91) (v := ?_) (a' := ?_) #[true, true, true, false, true, false, false, false, false, false] rfl rfl (any_of HT_.out (by kernel_rfl)) (fun _ _ _ h => h) (Or.inl ⟨by rfl, ?_⟩) ?_ ?_
            rotate_left
            ·intro w'
             go_simp
             with_reducible rfl
            rotate_left
            ·simp only [Act.put, List.setIfInBounds_toArray, List.set_cons_zero, List.set_cons_succ, i64_w, i32_w]
             rfl
            refine pure_ (i := 6) (N := some 93) (v := ?_) (a' := ?_) #[true, true, true, false, true, false, true, false, false, false] rfl rfl (any_of HT_.out (by kernel_rfl)) (fun _ _ _ h => h) (Or.inl ⟨by rfl, ?_⟩) ?_ ?_
            rotate_left
            ·intro w'
             go_simp
             with_reducible rfl
            rotate_left
            ·simp only [Act.put, List.setIfInBounds_toArray, List.set_cons_zero, List.set_cons_succ, i64_w, i32_w]
             rfl
            refine take_ (i := 3) (N := some 90) (v := ?_) (a' := ?_) #[true, true, true, true, true, false, true, false, false, false] rfl rfl (take_ofW HT_.out HW_.out (by kernel_rfl)) (fun _ _ _ h => h) (Or.inl ⟨by rfl, ?_⟩) hHeld ?_ ?_
            rotate_left
            ·rintro w' ⟨s0, s1, s2, s3⟩
             go_simp
             with_reducible rfl
            rotate_left
            ·simp only [Act.put, List.setIfInBounds_toArray, List.set_cons_zero, List.set_cons_succ, i64_w, i32_w]
             rfl
            refine take_ (i := 5) (N := some 92) (v := ?_) (a' := ?_) #[true, true, true, true, true, true, true, false, false, false] rfl rfl (take_ofW HT_.out HW_.out (by kernel_rfl)) (fun _ _ _ h => h) (Or.inl ⟨by rfl, ?_⟩) hHeld ?_ ?_
            rotate_left
            ·rintro w' ⟨s0, s1, s2, s3⟩
             go_simp
             with_reducible rfl
            rotate_left
            ·simp only [Act.put, List.setIfInBounds_toArray, List.set_cons_zero, List.set_cons_succ, i64_w, i32_w]
             rfl
            refine pure_ (i := 7) (N := some 94) (v := ?_) (a' := ?_) #[true, true, true, true, true, true, true, true, false, false] rfl rfl (any_of HT_.out (by kernel_rfl)) (fun _ _ _ h => h) (Or.inl ⟨by rfl, ?_⟩) ?_ ?_
            rotate_left
            ·intro w'
             go_simp
             with_reducible rfl
            rotate_left
            ·simp only [Act.put, List.setIfInBounds_toArray, List.set_cons_zero, List.set_cons_succ, i64_w, i32_w]
             rfl
            refine take_ (i := 8) (N := some 95) (v := ?_) (a' := ?_) #[true, true, true, true, true, true, true, true, true, false] rfl rfl (take_ofW HT_.out HW_.out (by kernel_rfl)) (fun _ _ _ h => h) (Or.inl ⟨by rfl, ?_⟩) hHeld ?_ ?_
            rotate_left
            ·rintro w' ⟨s0, s1, s2, s3⟩
             go_simp
             with_reducible rfl
            rotate_left
            ·simp only [Act.put, List.setIfInBounds_toArray, List.set_cons_zero, List.set_cons_succ, i64_w, i32_w]
             rfl
            refine pure_ (i := 9) (N := some 96) (v := ?_) (a' := ?_) #[true, true, true, true, true, true, true, true, true, true] rfl rfl (any_of HT_.out (by kernel_rfl)) (fun _ _ _ h => h) (Or.inl ⟨by rfl, ?_⟩) ?_ ?_
            rotate_left
            ·intro w'
             go_simp
             with_reducible rfl
            rotate_left
            ·simp only [Act.put, List.setIfInBounds_toArray, List.set_cons_zero, List.set_cons_succ, i64_w, i32_w]
             rfl
            refine done_ (done_of HT_.out (by kernel_rfl)) ?_
            try go_wp2
            go_roundg k2
            case measure => have := HK1.out; have := HK2.out; omega
            case rel => exact ⟨(wrap64 (x13_2 + 1)), eq_now, H', ⟨by have := HK1.out; have := HK2.out; omega⟩, ⟨by (with_reducible repeat (first | apply Kd.S_alloc | apply Kd.S_drewN | apply Kd.S_drew)); exact HO_5.out⟩, ⟨by (with_reducible repeat (first | apply Kd.R_alloc | apply Kd.R_drewN | apply Kd.R_drew)); exact HO_6.out⟩, ⟨bk_now⟩, ⟨b_now⟩⟩
           ·rw [if_neg c38] at H
            have c38b0 : ((rd y387 x13_2) == (rd l1_0 x13_2)) = false := beq_eq_false_iff_ne.mpr c38
            have c38b1 : ((rd y387 x13_2) != (rd l1_0 x13_2)) = true := bne_iff_ne.mpr c38
            obtain rfl := Option.some.inj H
            exact absurd HRT.out (by simp)
          ·rw [if_neg c37] at H
           exact absurd H (by simp)
         ·rw [if_neg c36] at H
          exact absurd H (by simp)
        ·rw [if_neg c35] at H
         have c35b0 : decide (x13_2 < (y387.length : Int)) = false := decide_eq_false c35
         clear c35
         by_cases c40 : t390 = t392
         ·rw [if_pos c40] at H
          have c40b0 : (t390 == t392) = true := beq_iff_eq.mpr c40
          have c40b1 : (t390 != t392) = false := bne_eq_false_iff_eq.mpr c40
          clear c40
          by_cases c41 : t391 = t393
          ·rw [if_pos c41] at H
           have c41b0 : (t391 == t393) = true := beq_iff_eq.mpr c41
           have c41b1 : (t391 != t393) = false := bne_eq_false_iff_eq.mpr c41
           clear c41
           replace H := Option.bind_eq_some_iff.mp H; obtain ⟨t403, A420, H⟩ := H; try dsimp only at H
           have A42 := Aside0.mk A420
           clear A420
           by_cases c43 : t403 = true
           ·subst c43
            replace H := sh_t H
            replace H := Option.bind_eq_some_iff.mp H; obtain ⟨t404, A440, H⟩ := H; try dsimp only at H
            have A44 := Aside0.mk A440
            clear A440
            obtain rfl := Option.some.inj H
            go_wp2_with (first | (go_at_call 17; (with_reducible refine (stockadelaw18_Is.calls k2 _ _ t384 _ _ l0 true _ ?side1 ?side2 ?side3 ?side4 A42.out).mono ?_); (case side1 => repeat (first | exact (Kd.S_reads' HO_5.out).2.2 | (with_reducible refine Kd.C_alloc ?_ _) | (with_reducible refine Kd.C_drewN ?_ _) | (with_reducible refine Kd.C_drew ?_))); (case side2 => exact (Kd.S_reads' HO_5.out).2.1); (case side3 => repeat (first | exact (Kd.C_below HR0.out HB.out) | (with_reducible refine Kd.C_alloc ?_ _) | (with_reducible refine Kd.C_drewN ?_ _) | (with_reducible refine Kd.C_drew ?_))); (case side4 => exact HC0.out); rintro e w45 ⟨rfl, hb⟩; replace HO_5 := Aside0.mk (Kd.S_below (by (with_reducible repeat (first | apply Kd.S_alloc | apply Kd.S_drewN | apply Kd.S_drew)); exact HO_5.out) hb); replace HO_6 := Aside0.mk (Kd.R_below (by (with_reducible repeat (first | apply Kd.R_alloc | apply Kd.R_drewN | apply Kd.R_drew)); exact HO_6.out) hb); replace BK381 := sh_k BK381 hb; replace HB := sh_b (w := w) hb; (try clear hb); (try clear hb2); (try clear hk); (try clear hi)) | (go_at_call 11; (with_reducible refine (stockadelaw18_wakes.calls k2  t404 _ ?side1 (by first | rfl | exact HRT.out) A44.out).mono ?_); (case side1 => repeat (first | exact (Kd.C_below HRG0.out HB.out) | (with_reducible refine Kd.C_alloc ?_ _) | (with_reducible refine Kd.C_drewN ?_ _) | (with_reducible refine Kd.C_drew ?_))); rintro e w46 ⟨rfl, hb⟩; replace HO_5 := Aside0.mk (Kd.S_below (by (with_reducible repeat (first | apply Kd.S_alloc | apply Kd.S_drewN | apply Kd.S_drew)); exact HO_5.out) hb); replace HO_6 := Aside0.mk (Kd.R_below (by (with_reducible repeat (first | apply Kd.R_alloc | apply Kd.R_drewN | apply Kd.R_drew)); exact HO_6.out) hb); replace BK381 := sh_k BK381 hb; replace HB := sh_b (w := w) hb; (try clear hb); (try clear hb2); (try clear hk); (try clear hi)))
            go_ret
            exact ⟨ret_now, b_now⟩
           ·replace c43 := Bool.eq_false_iff.mpr c43
            subst c43
            replace H := sh_f H
            obtain rfl := Option.some.inj H
            exact absurd HRT.out (by simp)
          ·rw [if_neg c41] at H
           have c41b0 : (t391 == t393) = false := beq_eq_false_iff_ne.mpr c41
           have c41b1 : (t391 != t393) = true := bne_iff_ne.mpr c41
           obtain rfl := Option.some.inj H
           exact absurd HRT.out (by simp)
         ·rw [if_neg c40] at H
          have c40b0 : (t390 == t392) = false := beq_eq_false_iff_ne.mpr c40
          have c40b1 : (t390 != t392) = true := bne_iff_ne.mpr c40
          obtain rfl := Option.some.inj H
          exact absurd HRT.out (by simp)
  ·rw [if_neg c9] at H
   exact absurd H (by simp)

end Go.Proofs.YtighficpbplkhaaDoor.P
