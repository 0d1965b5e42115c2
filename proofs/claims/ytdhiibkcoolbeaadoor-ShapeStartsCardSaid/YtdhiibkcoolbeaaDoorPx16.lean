/- Made by this session's driver over the kit's printer: for each Go function a Lean function with the same answers, and a proof that the Go call comes to these answers; no conditions but the ones each theorem names. -/
import Derived.Test.YtdhiibkcoolbeaaDoorPx0
import Derived.Test.YtdhiibkcoolbeaaDoorPx8
import Derived.Test.YtdhiibkcoolbeaaDoorPx12
import Derived.Test.YtdhiibkcoolbeaaDoorPx15
import Derived.Test.YtdhiibkcoolbeaaDoorPxXXCk
import Derived.Test.YtdhiibkcoolbeaaDoorPxXXSt
namespace Go.Proofs.YtdhiibkcoolbeaaDoor.P
open Go.RowKit Go.Proofs.YtdhiibkcoolbeaaDoorW.PrintWords Go.Proofs.YtdhiibkcoolbeaaDoorW.PrintLast Go.Proofs.YtdhiibkcoolbeaaDoorW.PrintMore
attribute [local go_sem] max2_int min2_int max_two min_two max_three min_three max_four min_four   -- for this text's walks alone
set_option linter.unusedVariables false
set_option linter.unusedSimpArgs false

/-! ### stockadelaw04_ShapeStarts: function 4 -/
mutual
def stockadelaw04_ShapeStarts.j0 : Nat → List (S40) → Int → List Bool → List Bool → Bool → Option (Bool)
 | 0, _, _, _, _, _ => none
 | k + 1, x0, x1, x7, x8, x28 => if x28 = true then (some false) else (stockadelaw04_ShapeStarts.l0 k x0 x1 x7 x8 (x7.length : Int) 0)
def stockadelaw04_ShapeStarts.l0 : Nat → List (S40) → Int → List Bool → List Bool → Int → Int → Option (Bool)
 | 0, _, _, _, _, _, _ => none
 | k + 1, x0, x1, x7, x8, x30, x31 => if x31 < x30 then (if 0 ≤ x31 then (if x31 < (x7.length : Int) then (if x31 < (x8.length : Int) then (if ((rdOf false x7 x31) != (rdOf false x8 x31)) = true then (some false) else (stockadelaw04_ShapeStarts.l0 k x0 x1 (x7.set (x31 : Int).toNat (!(rdOf false x7 x31))) x8 x30 (wrap64 (x31 + 1)))) else (none)) else (none)) else (none)) else ((shape_Starts.f x0).bind fun t410 => (stockadelaw04_ShapeStarts.l1 k x1 x8 t410 x0 (x0.length : Int) 0))
def stockadelaw04_ShapeStarts.l1 : Nat → Int → List Bool → List Bool → List (S40) → Int → Int → Option (Bool)
 | 0, _, _, _, _, _, _ => none
 | k + 1, x1, x8, x10, x54, x55, x56 => if x56 < x55 then (if 0 ≤ x56 then (if x56 < (x54.length : Int) then (if x56 < (x10.length : Int) then (if x56 < (x8.length : Int) then (if ((rdOf false x10 x56) != (rdOf false x8 x56)) = true then (some false) else ((shape_Target.f (x1 / 2) ((rd_T40 x54 x56).f0) ((rd_T40 x54 x56).f1) ((rd_T40 x54 x56).f2) ((rd_T40 x54 x56).f3) ((rd_T40 x54 x56).f4)).bind fun t418 => ((stockaderef04_Target.f (x1 / 2) ((rd_T40 x54 x56).f0) ((rd_T40 x54 x56).f1) ((rd_T40 x54 x56).f2) ((rd_T40 x54 x56).f3) ((rd_T40 x54 x56).f4)).bind fun t419 => (if t418 = t419 then (stockadelaw04_ShapeStarts.l1 k x1 x8 x10 x54 x55 (wrap64 (x56 + 1))) else (some false))))) else (none)) else (none)) else (none)) else (none)) else ((stockadelaw04_awake.f).bind fun t413 => (some t413))
end
def stockadelaw04_ShapeStarts.f (k : Nat) (l0 : List (S40)) (a1 : Int) (a2 : Int) : Option (Bool) := (shape_Starts.f l0).bind fun t398 => ((stockaderef04_Starts.f k l0).bind fun t401 => (if (t398.length : Int) = (t401.length : Int) then ((shape_Helper.f a2).bind fun t404 => ((stockaderef04_Helper.f a2).bind fun t405 => (stockadelaw04_ShapeStarts.j0 k l0 a1 t398 t401 (t404 != t405)))) else (stockadelaw04_ShapeStarts.j0 k l0 a1 t398 t401 true)))
theorem stockadelaw04_ShapeStarts.mono_l : ∀ k, (∀ y0 y1 y2 y3 y4, LeO (stockadelaw04_ShapeStarts.j0 k y0 y1 y2 y3 y4) (stockadelaw04_ShapeStarts.j0 (k + 1) y0 y1 y2 y3 y4)) ∧ (∀ y0 y1 y2 y3 y4 y5, LeO (stockadelaw04_ShapeStarts.l0 k y0 y1 y2 y3 y4 y5) (stockadelaw04_ShapeStarts.l0 (k + 1) y0 y1 y2 y3 y4 y5)) ∧ (∀ y0 y1 y2 y3 y4 y5, LeO (stockadelaw04_ShapeStarts.l1 k y0 y1 y2 y3 y4 y5) (stockadelaw04_ShapeStarts.l1 (k + 1) y0 y1 y2 y3 y4 y5))
 | 0 => ⟨fun _ _ _ _ _ r h => by simp [stockadelaw04_ShapeStarts.j0] at h, fun _ _ _ _ _ _ r h => by simp [stockadelaw04_ShapeStarts.l0] at h, fun _ _ _ _ _ _ r h => by simp [stockadelaw04_ShapeStarts.l1] at h⟩
 | k + 1 => by
  obtain ⟨ih0, ih1, ih2⟩ := stockadelaw04_ShapeStarts.mono_l k
  refine ⟨?_, ?_, ?_⟩
  ·intro y0 y1 y2 y3 y4
   unfold stockadelaw04_ShapeStarts.j0
   repeat' first
   | (with_reducible exact ih0 _ _ _ _ _)
   | (with_reducible exact ih1 _ _ _ _ _ _)
   | (with_reducible exact ih2 _ _ _ _ _ _)
   | (with_reducible exact stockaderef04_Starts.mono _ _)
   | (with_reducible exact LeO.refl _)
   | (with_reducible exact LeO.none _)
   | (with_reducible refine LeO.ite ?_ ?_)
   | (with_reducible refine LeO.bind ?_ (fun _ => ?_))
   | exact ih0 _ _ _ _ _
   | exact ih1 _ _ _ _ _ _
   | exact ih2 _ _ _ _ _ _
   | exact stockaderef04_Starts.mono _ _
   | exact LeO.none _
   | refine LeO.ite ?_ ?_
   | refine LeO.bind ?_ (fun _ => ?_)
  ·intro y0 y1 y2 y3 y4 y5
   unfold stockadelaw04_ShapeStarts.l0
   repeat' first
   | (with_reducible exact ih0 _ _ _ _ _)
   | (with_reducible exact ih1 _ _ _ _ _ _)
   | (with_reducible exact ih2 _ _ _ _ _ _)
   | (with_reducible exact stockaderef04_Starts.mono _ _)
   | (with_reducible exact LeO.refl _)
   | (with_reducible exact LeO.none _)
   | (with_reducible refine LeO.ite ?_ ?_)
   | (with_reducible refine LeO.bind ?_ (fun _ => ?_))
   | exact ih0 _ _ _ _ _
   | exact ih1 _ _ _ _ _ _
   | exact ih2 _ _ _ _ _ _
   | exact stockaderef04_Starts.mono _ _
   | exact LeO.none _
   | refine LeO.ite ?_ ?_
   | refine LeO.bind ?_ (fun _ => ?_)
  ·intro y0 y1 y2 y3 y4 y5
   unfold stockadelaw04_ShapeStarts.l1
   repeat' first
   | (with_reducible exact ih0 _ _ _ _ _)
   | (with_reducible exact ih1 _ _ _ _ _ _)
   | (with_reducible exact ih2 _ _ _ _ _ _)
   | (with_reducible exact stockaderef04_Starts.mono _ _)
   | (with_reducible exact LeO.refl _)
   | (with_reducible exact LeO.none _)
   | (with_reducible refine LeO.ite ?_ ?_)
   | (with_reducible refine LeO.bind ?_ (fun _ => ?_))
   | exact ih0 _ _ _ _ _
   | exact ih1 _ _ _ _ _ _
   | exact ih2 _ _ _ _ _ _
   | exact stockaderef04_Starts.mono _ _
   | exact LeO.none _
   | refine LeO.ite ?_ ?_
   | refine LeO.bind ?_ (fun _ => ?_)
theorem stockadelaw04_ShapeStarts.mono : ∀ a0 a1 a2 k, LeO (stockadelaw04_ShapeStarts.f k a0 a1 a2) (stockadelaw04_ShapeStarts.f (k + 1) a0 a1 a2) := by
 intro a0 a1 a2 k
 obtain ⟨ih0, ih1, ih2⟩ := stockadelaw04_ShapeStarts.mono_l k
 unfold stockadelaw04_ShapeStarts.f
 repeat' first
   | (with_reducible exact ih0 _ _ _ _ _)
   | (with_reducible exact ih1 _ _ _ _ _ _)
   | (with_reducible exact ih2 _ _ _ _ _ _)
   | (with_reducible exact stockaderef04_Starts.mono _ _)
   | (with_reducible exact LeO.refl _)
   | (with_reducible exact LeO.none _)
   | (with_reducible refine LeO.ite ?_ ?_)
   | (with_reducible refine LeO.bind ?_ (fun _ => ?_))
   | exact ih0 _ _ _ _ _
   | exact ih1 _ _ _ _ _ _
   | exact ih2 _ _ _ _ _ _
   | exact stockaderef04_Starts.mono _ _
   | exact LeO.none _
   | refine LeO.ite ?_ ?_
   | refine LeO.bind ?_ (fun _ => ?_)
def stockadelaw04_ShapeStarts.T7 : Bool × List (List Nat × List Nat) := (true, [([], []), ([], []), ([0, 1], [0, 1]), ([2], [2]), ([], []), ([], []), ([4, 5], [4, 5]), ([6], [6]), ([3, 7], [3, 7])])
def stockadelaw04_ShapeStarts.B7 : List Nat := [0, 0, 3, 7, 0, 0, 48, 112, 255]
theorem stockadelaw04_ShapeStarts.tab7 : rtab .any (opsOf Tryd.f4 7) = stockadelaw04_ShapeStarts.T7 := by kernel_rfl
theorem stockadelaw04_ShapeStarts.bits7 : waitsOk stockadelaw04_ShapeStarts.T7.2 stockadelaw04_ShapeStarts.B7 = true := by kernel_rfl
def stockadelaw04_ShapeStarts.T15 : Bool × List (List Nat × List Nat) := (true, [([], []), ([], []), ([0, 1], [0, 1]), ([2], [2]), ([], []), ([], []), ([4, 5], [4, 5]), ([6], [6]), ([3, 7], [3, 7]), ([8], [8]), ([9], [9]), ([10, 9], [9, 10]), ([9], [9]), ([11, 12, 9, 9], [9, 11, 12]), ([9], [9]), ([14, 9], [9, 14]), ([9], [9]), ([15, 16, 13, 9], [9, 15, 16]), ([13, 17, 9], [9, 13, 17]), ([9, 18], [9, 18])])
def stockadelaw04_ShapeStarts.B15 : List Nat := [0, 0, 3, 7, 0, 0, 48, 112, 255, 511, 1023, 2047, 1023, 8191, 1023, 17407, 1023, 131071, 262143, 524287]
theorem stockadelaw04_ShapeStarts.tab15 : rtab .any (opsOf Tryd.f4 15) = stockadelaw04_ShapeStarts.T15 := by kernel_rfl
theorem stockadelaw04_ShapeStarts.bits15 : waitsOk stockadelaw04_ShapeStarts.T15.2 stockadelaw04_ShapeStarts.B15 = true := by kernel_rfl
set_option maxHeartbeats 8000000 in
set_option maxRecDepth 100000 in
theorem stockadelaw04_ShapeStarts.calls (k : Nat) (A0 : Option Addr) (c0 : Nat) (l0 : List (S40)) (a1 : Int) (a2 : Int) (r : Bool) (w : World) (hr0 : Kd.C k40 w A0 l0.length l0) (hc0 : l0.length ≤ c0) (hrG0 : Kd.C (Kd.int .i64) w (some ⟨0, 0, none⟩) gl0.length gl0) (hr_ : r = true) (h : stockadelaw04_ShapeStarts.f k l0 a1 a2 = some r) :
  Calls Tryd.prog 4 #[.slice A0 l0.length c0, .int .i64 a1, .int .i32 a2] w fun e w' => e = .returned (.bool r) ∧ Below w.heap.size w w' := by
 have hu40 := Tryd.underlying40
 have HR0 := Aside0.mk hr0
 have HC0 := Aside0.mk hc0
 clear hr0 hc0
 have HRG0 := Aside0.mk hrG0
 clear hrG0
 have HRT := Aside0.mk hr_
 clear hr_
 have HB := Aside0.mk (Below.refl w.heap.size w)
 have H : ((shape_Starts.f l0).bind fun t398 => ((stockaderef04_Starts.f k l0).bind fun t401 => (if (t398.length : Int) = (t401.length : Int) then ((shape_Helper.f a2).bind fun t404 => ((stockaderef04_Helper.f a2).bind fun t405 => (stockadelaw04_ShapeStarts.j0 k l0 a1 t398 t401 (t404 != t405)))) else (stockadelaw04_ShapeStarts.j0 k l0 a1 t398 t401 true)))) = some r := h
 clear h
 replace H := Option.bind_eq_some_iff.mp H; obtain ⟨t398, A40, H⟩ := H; try dsimp only at H
 have A4 := Aside0.mk A40
 clear A40
 replace H := Option.bind_eq_some_iff.mp H; obtain ⟨t401, A50, H⟩ := H; try dsimp only at H
 have A5 := Aside0.mk A50
 clear A50
 have HC6 := Aside0.mk H
 clear H
 go_enter Tryd.func4, Tryd.ntmps4
 go_upto_region 2 with (first | ((with_reducible refine gate_callee (f := 15) rfl ?_); refine sh_call (some 14) Tryd.func15 #[.slice A0 l0.length c0] ?_; (with_reducible refine (shape_Starts.calls _ _ l0 t398 _ ?side1 ?side2 ?side3 A4.out).mono ?_); (case side1 => repeat (first | exact HR0.out | (with_reducible refine Kd.C_alloc ?_ _) | (with_reducible refine Kd.C_drewN ?_ _) | (with_reducible refine Kd.C_drew ?_))); (case side2 => exact HC0.out); (case side3 => repeat (first | exact HRG0.out | (with_reducible refine Kd.C_alloc ?_ _) | (with_reducible refine Kd.C_drewN ?_ _) | (with_reducible refine Kd.C_drew ?_))); rintro e w7 ⟨v399, rfl, ho0, hb⟩; refine ⟨_, rfl, ?_⟩; have HO400 := Aside0.mk (Kd.R_lower ho0 (below_size b_now)); replace HB := sh_b (w := w) hb; (try clear hb); (try clear hb2); (try clear hk); (try clear hi); (try clear ho0)) | ((with_reducible refine gate_callee (f := 16) rfl ?_); refine sh_call (some 16) Tryd.func16 #[.slice A0 l0.length c0] ?_; (with_reducible refine (stockaderef04_Starts.calls k _ _ l0 t401 _ ?side1 ?side2 A5.out).mono ?_); (case side1 => repeat (first | exact (Kd.C_below HR0.out HB.out) | (with_reducible refine Kd.C_alloc ?_ _) | (with_reducible refine Kd.C_drewN ?_ _) | (with_reducible refine Kd.C_drew ?_))); (case side2 => exact HC0.out); rintro e w8 ⟨v402, rfl, ho0, hb⟩; refine ⟨_, rfl, ?_⟩; have HO403 := Aside0.mk (Kd.R_lower (Kd.R_new' ho0 (Kd.R_lt (by (with_reducible repeat (first | apply Kd.R_alloc | apply Kd.R_drewN | apply Kd.R_drew)); exact HO400.out))) (below_size b_now)); replace HO400 := Aside0.mk (Kd.R_elder' (by (with_reducible repeat (first | apply Kd.R_alloc | apply Kd.R_drewN | apply Kd.R_drew)); exact HO400.out) (Kd.R_base ho0) hb); replace HB := sh_b (w := w) hb; (try clear hb); (try clear hb2); (try clear hk); (try clear hi); (try clear ho0)))
 (try simp only [Act.put, List.setIfInBounds_toArray, List.set_cons_zero, List.set_cons_succ])
 go_cut [28] (fun v28 wc => ∃ (kq : Nat) (x28_5 : Bool), v28 = .bool x28_5 ∧ Aside0 (stockadelaw04_ShapeStarts.j0 kq l0 a1 t398 t401 x28_5 = some r) ∧ Aside0 (kq ≤ k) ∧ Aside0 (Kd.R Kd.bool 4 wc w.heap.size (fun k_ => some k_ ≠ (v402 : Value).ownBlock) v399 t398) ∧ Aside0 (Kd.R Kd.bool 4 wc w.heap.size (fun k_ => some k_ ≠ (v399 : Value).ownBlock) v402 t401) ∧ Aside0 (Below w.heap.size w wc))
 case first =>
  have H := HC6.out
  clear HC6
  by_cases c9 : (t398.length : Int) = (t401.length : Int)
  ·rw [if_pos c9] at H
   have c9b0 : ((t398.length : Int) == (t401.length : Int)) = true := beq_iff_eq.mpr c9
   have c9b1 : ((t398.length : Int) != (t401.length : Int)) = false := bne_eq_false_iff_eq.mpr c9
   have c9b2 : (t398.length == t401.length) = true := by first | simpa using c9 | (simp at c9 ⊢; omega)
   clear c9
   (first | rw [c9b0] | (simp only [i64_w, i32_w]; rw [c9b0]) | skip)
   replace H := Option.bind_eq_some_iff.mp H; obtain ⟨t404, A100, H⟩ := H; try dsimp only at H
   have A10 := Aside0.mk A100
   clear A100
   replace H := Option.bind_eq_some_iff.mp H; obtain ⟨t405, A110, H⟩ := H; try dsimp only at H
   have A11 := Aside0.mk A110
   clear A110
   have H' := Aside0.mk H
   clear H
   obtain ⟨Ao12, co12, eo12⟩ := Kd.R_slice HO400.out
   subst eo12
   obtain ⟨Ao13, co13, eo13⟩ := Kd.R_slice HO403.out
   subst eo13
   go_wp2_with (first | (go_at_call 17; (with_reducible refine (shape_Helper.calls a2 t404 _ A10.out).mono ?_); rintro e w' ⟨rfl, ⟨nd, rfl⟩⟩) | (go_at_call 18; (with_reducible refine (stockaderef04_Helper.calls a2 t405 _ A11.out).mono ?_); rintro e w' ⟨rfl, ⟨nd, rfl⟩⟩))
   go_meet
   case rel => exact ⟨_, ((t404 != t405)), eq_now, H', ⟨by first | omega | exact Nat.le_refl _⟩, ⟨by (with_reducible repeat (first | apply Kd.R_alloc | apply Kd.R_drewN | apply Kd.R_drew)); exact Kd.R_mono HO400.out (fun _ hk => hk.2)⟩, ⟨by (with_reducible repeat (first | apply Kd.R_alloc | apply Kd.R_drewN | apply Kd.R_drew)); exact Kd.R_mono HO403.out (fun _ hk => hk.2)⟩, ⟨b_now⟩⟩
  ·rw [if_neg c9] at H
   have c9b0 : ((t398.length : Int) == (t401.length : Int)) = false := beq_eq_false_iff_ne.mpr c9
   have c9b1 : ((t398.length : Int) != (t401.length : Int)) = true := bne_iff_ne.mpr c9
   have c9b2 : (t398.length == t401.length) = false := by first | simpa using c9 | (simp at c9 ⊢; omega)
   (first | rw [c9b0] | (simp only [i64_w, i32_w]; rw [c9b0]) | skip)
   have H' := Aside0.mk H
   clear H
   obtain ⟨Ao14, co14, eo14⟩ := Kd.R_slice HO400.out
   subst eo14
   obtain ⟨Ao15, co15, eo15⟩ := Kd.R_slice HO403.out
   subst eo15
   go_wp2
   go_meet
   case rel => exact ⟨_, (true), eq_now, H', ⟨by first | omega | exact Nat.le_refl _⟩, ⟨by (with_reducible repeat (first | apply Kd.R_alloc | apply Kd.R_drewN | apply Kd.R_drew)); exact Kd.R_mono HO400.out (fun _ hk => hk.2)⟩, ⟨by (with_reducible repeat (first | apply Kd.R_alloc | apply Kd.R_drewN | apply Kd.R_drew)); exact Kd.R_mono HO403.out (fun _ hk => hk.2)⟩, ⟨b_now⟩⟩
 case rest =>
  clear HC6
  try clear c1
  try clear p2
  try clear c4
  try clear c9
  try clear c9b0
  try clear c9b1
  try clear c9b2
  try clear c15
  obtain ⟨kq, x28_5, rfl, HA, HJ5, HO_7, HO_8, HB⟩ := hcut
  cases kq with
  | zero => exact absurd HA.out (by simp [stockadelaw04_ShapeStarts.j0])
  | succ kj5 =>
   have H := HA.out
   clear HA
   simp only [stockadelaw04_ShapeStarts.j0] at H
   by_cases c16 : x28_5 = true
   ·subst c16
    replace H := sh_t H
    obtain rfl := Option.some.inj H
    exact absurd HRT.out (by simp)
   ·replace c16 := Bool.eq_false_iff.mpr c16
    subst c16
    replace H := sh_f H
    have H' := Aside0.mk H
    clear H
    obtain ⟨Ao17, co17, eo17⟩ := Kd.R_slice HO_7.out
    subst eo17
    go_wp2
    go_loopg [31] kj5 (fun kq v31 w' => ∃ (x7_2 : List Bool) (x31_2 : Int), v31 = .int .i64 x31_2 ∧ Aside0 (stockadelaw04_ShapeStarts.l0 kq l0 a1 x7_2 t401 (t398.length : Int) x31_2 = some r) ∧ Aside0 (kq ≤ kj5) ∧ Aside0 (Kd.R Kd.bool 4 w' w.heap.size (fun k_ => some k_ ≠ (v402 : Value).ownBlock) (.slice Ao17 t398.length co17) x7_2) ∧ Aside0 (Kd.R Kd.bool 4 w' w.heap.size (fun k_ => some k_ ≠ ((.slice Ao17 t398.length co17) : Value).ownBlock) v402 t401) ∧ Aside0 (Below w.heap.size w w'))
    case atStart => exact ⟨(t398), (0), eq_now, H', ⟨Nat.le_refl _⟩, ⟨by (with_reducible repeat (first | apply Kd.R_alloc | apply Kd.R_drewN | apply Kd.R_drew)); exact HO_7.out⟩, ⟨by (with_reducible repeat (first | apply Kd.R_alloc | apply Kd.R_drewN | apply Kd.R_drew)); exact HO_8.out⟩, ⟨b_now⟩⟩
    case round =>
     clear H'
     try clear c1
     try clear p2
     try clear c4
     try clear c9
     try clear c9b0
     try clear c9b1
     try clear c9b2
     try clear c15
     try clear c16
     try clear p2
     obtain ⟨x7_2, x31_2, rfl, HA, HK2, HO_7, HO_8, HB⟩ := hrel
     have hl7_2 := (Kd.R_reads' HO_7.out).1
     rw [hl7_2] at HO_7
     (try simp only [hl7_2])
     (try simp only [hl7_2] at HO_8)
     cases gk with
     | zero => exact absurd HA.out (by simp [stockadelaw04_ShapeStarts.l0])
     | succ k2 =>
      have H := HA.out
      clear HA
      simp only [stockadelaw04_ShapeStarts.l0] at H
      by_cases c18 : x31_2 < (t398.length : Int)
      ·rw [if_pos c18] at H
       have c18b0 : decide (x31_2 < (t398.length : Int)) = true := decide_eq_true c18
       clear c18
       by_cases c19 : 0 ≤ x31_2
       ·rw [if_pos c19] at H
        have c19b0 : decide (0 ≤ x31_2) = true := decide_eq_true c19
        clear c19
        by_cases c20 : x31_2 < (x7_2.length : Int)
        ·rw [if_pos c20] at H
         have c20b0 : decide (x31_2 < (x7_2.length : Int)) = true := decide_eq_true c20
         clear c20
         by_cases c21 : x31_2 < (t401.length : Int)
         ·rw [if_pos c21] at H
          have c21b0 : decide (x31_2 < (t401.length : Int)) = true := decide_eq_true c21
          clear c21
          by_cases c22 : ((rdOf false x7_2 x31_2) != (rdOf false t401 x31_2)) = true
          ·rw [if_pos c22] at H
           have c22b0 : ((rdOf false x7_2 x31_2) != (rdOf false t401 x31_2)) = true := c22
           (try (have c22b1 : decide ((rdOf false x7_2 x31_2) = (rdOf false t401 x31_2)) = false := by simpa using c22))
           (try (have c22b2 : ((rdOf false x7_2 x31_2) == (rdOf false t401 x31_2)) = false := by simpa using c22))
           (try (have c22b3 : ¬ ((rdOf false x7_2 x31_2) = (rdOf false t401 x31_2)) := by simpa using c22))
           clear c22
           obtain rfl := Option.some.inj H
           exact absurd HRT.out (by simp)
          ·rw [if_neg c22] at H
           have c22b0 : ((rdOf false x7_2 x31_2) != (rdOf false t401 x31_2)) = false := by simpa using c22
           (try (have c22b1 : decide ((rdOf false x7_2 x31_2) = (rdOf false t401 x31_2)) = true := by simpa using c22))
           (try (have c22b2 : ((rdOf false x7_2 x31_2) == (rdOf false t401 x31_2)) = true := by simpa using c22))
           clear c22
           obtain ⟨y409, hy409⟩ : ∃ y_ : List Bool, y_ = (x7_2.set (x31_2 : Int).toNat (!(rdOf false x7_2 x31_2))) := ⟨_, rfl⟩
           replace H : (stockadelaw04_ShapeStarts.l0 k2 l0 a1 y409 t401 (t398.length : Int) (wrap64 (x31_2 + 1))) = some r := by first | (rw [hy409]; with_reducible exact H) | (have H2_ := (Option.bind_some _ _).symm.trans H; rw [hy409]; with_reducible exact H2_) | (have H2_ := (Option.bind_some _ _).symm.trans H; with_reducible exact H2_) | with_reducible exact H | (rw [hy409]; exact H) | exact H
           have Ny409 := Aside0.mk hy409
           clear hy409
           have H' := Aside0.mk H
           clear H
           try go_wp2
           have n0_ := Aside0.mk (Kd.R_drew HO_7.out)
           have n1_ := Aside0.mk (Kd.R_drew HO_8.out)
           have n2_ := Aside0.mk (below_drew1 HB.out)
           clear HO_7
           clear HO_8
           clear HB
           have HO_7 := n0_
           have HO_8 := n1_
           have HB := n2_
           clear n0_ n1_ n2_
           have p406 : 0 ≤ (x31_2 : Int) := of_decide_eq_true (by first | (with_reducible assumption) | assumption)
           have q406 : x31_2 < (x7_2.length : Int) := of_decide_eq_true (by first | (with_reducible assumption) | assumption)
           obtain ⟨ad406, e406, hx406_0⟩ := Kd.at_bool (Kd.R_reads' HO_7.out).2.2 x31_2 p406 q406
           cases e406
           replace p406 := eq_true p406
           replace q406 := eq_true q406
           obtain ⟨Ao25, co25, eo25⟩ := Kd.R_slice HO_8.out
           (first | subst eo25 | (injection eo25 with f1_ f2_ f3_; have f4_ := f1_.symm; have f5_ := f3_.symm; clear f1_ f2_ f3_; subst f4_; subst f5_))
           have p407 : 0 ≤ (x31_2 : Int) := of_decide_eq_true (by first | (with_reducible assumption) | assumption)
           have q407 : x31_2 < (t401.length : Int) := of_decide_eq_true (by first | (with_reducible assumption) | assumption)
           obtain ⟨ad407, e407, hx407_0⟩ := Kd.at_bool (Kd.R_reads' HO_8.out).2.2 x31_2 p407 q407
           cases e407
           replace p407 := eq_true p407
           replace q407 := eq_true q407
           refine start_ (n := 9) (S := fun w' => w'.cell? (ad406.add (x31_2).toNat) = some (.bool (rdOf false x7_2 x31_2)) ∧ w'.cell? (ad407.add (x31_2).toNat) = some (.bool (rdOf false t401 x31_2))) (ds := []) #[false, false, false, false, false, false, false, false, false] (by kernel_rfl) rfl rfl ⟨hx406_0, hx407_0⟩ (fun hHeld => ?_); refine with_tabW stockadelaw04_ShapeStarts.tab7 stockadelaw04_ShapeStarts.bits7 (fun HT_ HW_ => ?_)
           generalize wr.drew = w24 at HO_7 HO_8 HB hx406_0 hx407_0 hHeld ⊢
           refine pure_ (i := 0) (N := some 34) (v := ?_) (a' := ?_) #[true, false, false, false, false, false, false, false, false] rfl rfl (any_of HT_.out (by kernel_rfl)) (fun _ _ _ h => h) (Or.inl ⟨by rfl, ?_⟩) ?_ ?_
           rotate_left
           ·intro w'
            go_simp
            with_reducible rfl
           rotate_left
           ·simp only [Act.put, List.setIfInBounds_toArray, List.set_cons_zero, List.set_cons_succ, i64_w, i32_w]
            rfl
           refine pure_ (i := 1) (N := some 35) (v := ?_) (a' := ?_) #[true, true, false, false, false, false, false, false, false] rfl rfl (any_of HT_.out (by kernel_rfl)) (fun _ _ _ h => h) (Or.inl ⟨by rfl, ?_⟩) ?_ ?_
           rotate_left
           ·intro w'
            go_simp
            with_reducible rfl
           rotate_left
           ·simp only [Act.put, List.setIfInBounds_toArray, List.set_cons_zero, List.set_cons_succ, i64_w, i32_w]
            rfl
           refine pure_ (i := 2) (N := some 36) (v := ?_) (a' := ?_) #[true, true, true, false, false, false, false, false, false] rfl rfl (any_of HT_.out (by kernel_rfl)) (fun _ _ _ h => h) (Or.inl ⟨by rfl, ?_⟩) ?_ ?_
           rotate_left
           ·intro w'
            go_simp
            with_reducible rfl
           rotate_left
           ·simp only [Act.put, List.setIfInBounds_toArray, List.set_cons_zero, List.set_cons_succ, i64_w, i32_w]
            rfl
           refine pure_ (i := 4) (N := some 38) (v := ?_) (a' := ?_) #[true, true, true, false, true, false, false, false, false] rfl rfl (any_of HT_.out (by kernel_rfl)) (fun _ _ _ h => h) (Or.inl ⟨by rfl, ?_⟩) ?_ ?_
           rotate_left
           ·intro w'
            go_simp
            with_reducible rfl
           rotate_left
           ·simp only [Act.put, List.setIfInBounds_toArray, List.set_cons_zero, List.set_cons_succ, i64_w, i32_w]
            rfl
           refine pure_ (i := 5) (N := some 39) (v := ?_) (a' := ?_) #[true, true, true, false, true, true, false, false, false] rfl rfl (any_of HT_.out (by kernel_rfl)) (fun _ _ _ h => h) (Or.inl ⟨by rfl, ?_⟩) ?_ ?_
           rotate_left
           ·intro w'
            go_simp
            with_reducible rfl
           rotate_left
           ·simp only [Act.put, List.setIfInBounds_toArray, List.set_cons_zero, List.set_cons_succ, i64_w, i32_w]
            rfl
           refine pure_ (i := 6) (N := some 40) (v := ?_) (a' := ?_) #[true, true, true, false, true, true, true, false, false] rfl rfl (any_of HT_.out (by kernel_rfl)) (fun _ _ _ h => h) (Or.inl ⟨by rfl, ?_⟩) ?_ ?_
           rotate_left
           ·intro w'
            go_simp
            with_reducible rfl
           rotate_left
           ·simp only [Act.put, List.setIfInBounds_toArray, List.set_cons_zero, List.set_cons_succ, i64_w, i32_w]
            rfl
           refine take_ (i := 3) (N := some 37) (v := ?_) (a' := ?_) #[true, true, true, true, true, true, true, false, false] rfl rfl (take_ofW HT_.out HW_.out (by kernel_rfl)) (fun _ _ _ h => h) (Or.inl ⟨by rfl, ?_⟩) hHeld ?_ ?_
           rotate_left
           ·rintro w' ⟨s0, s1⟩
            go_simp
            with_reducible rfl
           rotate_left
           ·simp only [Act.put, List.setIfInBounds_toArray, List.set_cons_zero, List.set_cons_succ, i64_w, i32_w]
            rfl
           refine take_ (i := 7) (N := some 41) (v := ?_) (a' := ?_) #[true, true, true, true, true, true, true, true, false] rfl rfl (take_ofW HT_.out HW_.out (by kernel_rfl)) (fun _ _ _ h => h) (Or.inl ⟨by rfl, ?_⟩) hHeld ?_ ?_
           rotate_left
           ·rintro w' ⟨s0, s1⟩
            go_simp
            with_reducible rfl
           rotate_left
           ·simp only [Act.put, List.setIfInBounds_toArray, List.set_cons_zero, List.set_cons_succ, i64_w, i32_w]
            rfl
           refine pure_ (i := 8) (N := some 42) (v := ?_) (a' := ?_) #[true, true, true, true, true, true, true, true, true] rfl rfl (any_of HT_.out (by kernel_rfl)) (fun _ _ _ h => h) (Or.inl ⟨by rfl, ?_⟩) ?_ ?_
           rotate_left
           ·intro w'
            go_simp
            with_reducible rfl
           rotate_left
           ·simp only [Act.put, List.setIfInBounds_toArray, List.set_cons_zero, List.set_cons_succ, i64_w, i32_w]
            rfl
           refine done_ (done_of HT_.out (by kernel_rfl)) ?_
           have p408 : 0 ≤ (x31_2 : Int) := of_decide_eq_true (by first | (with_reducible assumption) | assumption)
           have q408 : x31_2 < (x7_2.length : Int) := of_decide_eq_true (by first | (with_reducible assumption) | assumption)
           obtain ⟨ad408, e408, hx408_0⟩ := Kd.at_bool (Kd.R_reads' HO_7.out).2.2 x31_2 p408 q408
           obtain rfl : ad406 = ad408 := (by injection e408)
           replace p408 := eq_true p408
           replace q408 := eq_true q408
           have p23 : 0 ≤ (x31_2 : Int) := of_decide_eq_true (by first | (with_reducible assumption) | assumption)
           have q23 : (x31_2 : Int) < ((x7_2.length : Int) : Int) := of_decide_eq_true (by first | (with_reducible assumption) | assumption)
           obtain ⟨go23, co23, eo23, gb23, gl23, cl23, HG23⟩ := Kd.R_form HO_7.out (by omega)
           (first | cases eo23 | (injection eo23 with ea_ en_ ec_; (first | subst ea_ | (injection ea_ with ea_; subst ea_)); subst ec_; clear en_))
           have GB23 := Aside0.mk gb23
           have GG23 := Aside0.mk HG23
           clear gb23 gl23 HG23
           (first | simp only [add_plain] at hx406_0 | skip)
           (first | simp only [add_plain] at hx408_0 | skip)
           obtain ⟨hx23_0, hf23_0⟩ := Kd.R_celln false HO_7.out (x31_2 : Int) p23 q23
           replace p23 := eq_true p23
           replace q23 := eq_true q23
           obtain ⟨hy26_, hz26_⟩ := Kd.R_celln false HO_7.out (x31_2 : Int) (of_decide_eq_true (by first | (with_reducible assumption) | assumption)) (of_decide_eq_true (by first | (with_reducible assumption) | assumption))
           have HP26 := Kd.R_putg HO_7.out (x31_2 : Int) (!(rdOf false x7_2 x31_2))
           try go_wp2_with (first | ((with_reducible refine gate_store (t := 4) (p := 50) rfl ?_); refine store_event (t := 4) (p := 50) (v := ?vo_w27) (w1 := (w24.setCell ⟨go23, (x31_2 : Int).toNat, none⟩ (.bool (!(rdOf false x7_2 x31_2))))) ?hg ?ho ?hn ?hr ?_; (case ho => rfl); (case hg => rfl); (case hn => rfl); (case hr => first | (go_simp; done) | (go_simp; rfl)); intro w27 hw; have hg : w24.grownBy w27 (some go23) := (by rw [hw]; exact HP26.2); have hp_ : Kd.R Kd.bool 4 w27 w.heap.size (fun k_ => some k_ ≠ (.slice (some ad407) t401.length co25 : Value).ownBlock) (.slice (some ⟨go23, 0, none⟩) x7_2.length co17) y409 := (by rw [hw, Ny409.out]; exact HP26.1); clear HP26; replace HO_7 := Aside0.mk (hp_); replace HO_8 := Aside0.mk (Kd.R_after (v := (.slice (some ⟨go23, 0, none⟩) x7_2.length co17)) (v1 := (.slice (some ⟨go23, 0, none⟩) x7_2.length co17)) (ok := (fun _ => True)) (by (with_reducible repeat (first | apply Kd.R_alloc | apply Kd.R_drewN | apply Kd.R_drew)); exact Kd.R_mono HO_8.out (fun _ hk => ⟨trivial, hk⟩)) hg (.inl rfl)); replace HB := Aside0.mk ((by rw [hw]; exact below_set (HB.out) GB23.out : Below w.heap.size w w27)); clear hg hw hp_))
           (try simp only [← hl7_2])
           go_roundg k2
           case measure => have := HJ5.out; have := HK2.out; omega
           case rel => exact ⟨(y409), (wrap64 (x31_2 + 1)), eq_now, H', ⟨by have := HJ5.out; have := HK2.out; omega⟩, ⟨by (try simp only [hl7_2]); (with_reducible repeat (first | apply Kd.R_alloc | apply Kd.R_drewN | apply Kd.R_drew)); exact HO_7.out⟩, ⟨by (try simp only [hl7_2]); (with_reducible repeat (first | apply Kd.R_alloc | apply Kd.R_drewN | apply Kd.R_drew)); exact Kd.R_mono HO_8.out (fun _ hk => hk.2)⟩, ⟨b_now⟩⟩
         ·rw [if_neg c21] at H
          exact absurd H (by simp)
        ·rw [if_neg c20] at H
         exact absurd H (by simp)
       ·rw [if_neg c19] at H
        exact absurd H (by simp)
      ·rw [if_neg c18] at H
       have c18b0 : decide (x31_2 < (t398.length : Int)) = false := decide_eq_false c18
       have c18b1 : decide (x31_2 < (x7_2.length : Int)) = false := by rw [← hl7_2]; exact c18b0
       clear c18
       replace H := Option.bind_eq_some_iff.mp H; obtain ⟨t410, A280, H⟩ := H; try dsimp only at H
       have A28 := Aside0.mk A280
       clear A280
       have H' := Aside0.mk H
       clear H
       go_wp2_with (first | ((with_reducible refine gate_callee (f := 15) rfl ?_); refine sh_call (some 53) Tryd.func15 #[.slice A0 l0.length c0] ?_; (with_reducible refine (shape_Starts.calls _ _ l0 t410 _ ?side1 ?side2 ?side3 A28.out).mono ?_); (case side1 => repeat (first | exact (Kd.C_below HR0.out HB.out) | (with_reducible refine Kd.C_alloc ?_ _) | (with_reducible refine Kd.C_drewN ?_ _) | (with_reducible refine Kd.C_drew ?_))); (case side2 => exact HC0.out); (case side3 => repeat (first | exact (Kd.C_below HRG0.out HB.out) | (with_reducible refine Kd.C_alloc ?_ _) | (with_reducible refine Kd.C_drewN ?_ _) | (with_reducible refine Kd.C_drew ?_))); rintro e w29 ⟨v411, rfl, ho0, hb⟩; refine ⟨_, rfl, ?_⟩; have HO412 := Aside0.mk (Kd.R_lower (Kd.R_new' (Kd.R_new' ho0 (Kd.R_lt (by (with_reducible repeat (first | apply Kd.R_alloc | apply Kd.R_drewN | apply Kd.R_drew)); exact HO_7.out))) (Kd.R_lt (by (with_reducible repeat (first | apply Kd.R_alloc | apply Kd.R_drewN | apply Kd.R_drew)); exact HO_8.out))) (below_size b_now)); replace HO_7 := Aside0.mk (Kd.R_elder' (by (with_reducible repeat (first | apply Kd.R_alloc | apply Kd.R_drewN | apply Kd.R_drew)); exact HO_7.out) (Kd.R_base ho0) hb); replace HO_8 := Aside0.mk (Kd.R_elder' (by (with_reducible repeat (first | apply Kd.R_alloc | apply Kd.R_drewN | apply Kd.R_drew)); exact HO_8.out) (Kd.R_base ho0) hb); replace HB := sh_b (w := w) hb; (try clear hb); (try clear hb2); (try clear hk); (try clear hi); (try clear ho0)))
       go_loopg [56] k2 (fun kq v56 w' => ∃ (x56_3 : Int), v56 = .int .i64 x56_3 ∧ Aside0 (stockadelaw04_ShapeStarts.l1 kq a1 t401 t410 l0 (l0.length : Int) x56_3 = some r) ∧ Aside0 (kq ≤ k2) ∧ Aside0 (Kd.R Kd.bool 4 w' w.heap.size (fun k_ => some k_ ≠ (v411 : Value).ownBlock) v402 t401) ∧ Aside0 (Kd.R Kd.bool 4 w' w.heap.size (fun k_ => some k_ ≠ (v402 : Value).ownBlock) v411 t410) ∧ Aside0 (Below w.heap.size w w'))
       case atStart => exact ⟨(0), eq_now, H', ⟨Nat.le_refl _⟩, ⟨by (try simp only [hl7_2]); (with_reducible repeat (first | apply Kd.R_alloc | apply Kd.R_drewN | apply Kd.R_drew)); exact Kd.R_mono HO_8.out (fun _ hk => hk.2)⟩, ⟨by (try simp only [hl7_2]); (with_reducible repeat (first | apply Kd.R_alloc | apply Kd.R_drewN | apply Kd.R_drew)); exact Kd.R_mono HO412.out (fun _ hk => hk.2)⟩, ⟨b_now⟩⟩
       case round =>
        clear H'
        try clear c1
        try clear c2
        try clear p2
        try clear q2
        try clear hx2
        try clear c4
        try clear p4
        try clear q4
        try clear hx4
        try clear p6
        try clear c9
        try clear c9b0
        try clear c9b1
        try clear c9b2
        try clear c15
        try clear c16
        try clear c18
        try clear c18b0
        try clear c19
        try clear c19b0
        try clear c20
        try clear c20b0
        try clear c21
        try clear c21b0
        try clear c22
        try clear c22b0
        try clear c22b1
        try clear c22b2
        try clear p23
        try clear q23
        try clear hx23
        try clear hf23
        try clear hx23_0
        try clear hx406_0
        try clear hx407_0
        try clear hx408_0
        try clear p2
        try clear p23
        try clear p406
        try clear p407
        try clear p408
        try clear q23
        try clear q406
        try clear q407
        try clear q408
        obtain ⟨x56_3, rfl, HA, HK3, HO_8, HO_10, HB⟩ := hrel
        cases gk with
        | zero => exact absurd HA.out (by simp [stockadelaw04_ShapeStarts.l1])
        | succ k3 =>
         have H := HA.out
         clear HA
         simp only [stockadelaw04_ShapeStarts.l1] at H
         by_cases c30 : x56_3 < (l0.length : Int)
         ·rw [if_pos c30] at H
          have c30b0 : decide (x56_3 < (l0.length : Int)) = true := decide_eq_true c30
          clear c30
          by_cases c31 : 0 ≤ x56_3
          ·rw [if_pos c31] at H
           have c31b0 : decide (0 ≤ x56_3) = true := decide_eq_true c31
           clear c31
           by_cases c32 : x56_3 < (l0.length : Int)
           ·rw [if_pos c32] at H
            have c32b0 : decide (x56_3 < (l0.length : Int)) = true := decide_eq_true c32
            clear c32
            by_cases c33 : x56_3 < (t410.length : Int)
            ·rw [if_pos c33] at H
             have c33b0 : decide (x56_3 < (t410.length : Int)) = true := decide_eq_true c33
             clear c33
             by_cases c34 : x56_3 < (t401.length : Int)
             ·rw [if_pos c34] at H
              have c34b0 : decide (x56_3 < (t401.length : Int)) = true := decide_eq_true c34
              clear c34
              by_cases c35 : ((rdOf false t410 x56_3) != (rdOf false t401 x56_3)) = true
              ·rw [if_pos c35] at H
               have c35b0 : ((rdOf false t410 x56_3) != (rdOf false t401 x56_3)) = true := c35
               (try (have c35b1 : decide ((rdOf false t410 x56_3) = (rdOf false t401 x56_3)) = false := by simpa using c35))
               (try (have c35b2 : ((rdOf false t410 x56_3) == (rdOf false t401 x56_3)) = false := by simpa using c35))
               (try (have c35b3 : ¬ ((rdOf false t410 x56_3) = (rdOf false t401 x56_3)) := by simpa using c35))
               clear c35
               obtain rfl := Option.some.inj H
               exact absurd HRT.out (by simp)
              ·rw [if_neg c35] at H
               have c35b0 : ((rdOf false t410 x56_3) != (rdOf false t401 x56_3)) = false := by simpa using c35
               (try (have c35b1 : decide ((rdOf false t410 x56_3) = (rdOf false t401 x56_3)) = true := by simpa using c35))
               (try (have c35b2 : ((rdOf false t410 x56_3) == (rdOf false t401 x56_3)) = true := by simpa using c35))
               clear c35
               replace H := Option.bind_eq_some_iff.mp H; obtain ⟨t418, A360, H⟩ := H; try dsimp only at H
               have A36 := Aside0.mk A360
               clear A360
               replace H := Option.bind_eq_some_iff.mp H; obtain ⟨t419, A370, H⟩ := H; try dsimp only at H
               have A37 := Aside0.mk A370
               clear A370
               by_cases c38 : t418 = t419
               ·rw [if_pos c38] at H
                have c38b0 : (t418 == t419) = true := beq_iff_eq.mpr c38
                have c38b1 : (t418 != t419) = false := bne_eq_false_iff_eq.mpr c38
                clear c38
                have H' := Aside0.mk H
                clear H
                have p414 : 0 ≤ (x56_3 : Int) := of_decide_eq_true (by first | (with_reducible assumption) | assumption)
                have q414 : x56_3 < (l0.length : Int) := of_decide_eq_true (by first | (with_reducible assumption) | assumption)
                obtain ⟨ad414, e414, hx414_0, hx414_1, hx414_2, hx414_3, hx414_4⟩ := at_T40 HR0.out x56_3 p414 q414
                cases e414
                replace hx414_0 := (HB.out.cell (World.block_lt_of_cell? w _ hx414_0)).trans hx414_0
                replace hx414_1 := (HB.out.cell (World.block_lt_of_cell? w _ hx414_1)).trans hx414_1
                replace hx414_2 := (HB.out.cell (World.block_lt_of_cell? w _ hx414_2)).trans hx414_2
                replace hx414_3 := (HB.out.cell (World.block_lt_of_cell? w _ hx414_3)).trans hx414_3
                replace hx414_4 := (HB.out.cell (World.block_lt_of_cell? w _ hx414_4)).trans hx414_4
                replace p414 := eq_true p414
                replace q414 := eq_true q414
                try go_wp2_with (first | ((with_reducible refine gate_dst (N := 12) rfl ?_); refine sh_box 12 #[.int .u8 0, .int .u8 0, .int .u8 0, .int .i16 0, .int .i32 0] 40 ?_; intro gb415 hg w39 hbox hb; have GE415 := sh_z (w := w) hg; replace HO_8 := Aside0.mk (Kd.R_below (by (with_reducible repeat (first | apply Kd.R_alloc | apply Kd.R_drewN | apply Kd.R_drew)); exact HO_8.out) hb); replace HO_10 := Aside0.mk (Kd.R_below (by (with_reducible repeat (first | apply Kd.R_alloc | apply Kd.R_drewN | apply Kd.R_drew)); exact HO_10.out) hb); replace HB := sh_b (w := w) hb; have BK415 := Aside0.mk (hbox); clear hb hbox hg; have hcz40 := blk_all5 BK415.out))
                have n0_ : Aside0 (Kd.R Kd.bool 4 (((((w39.setCell ⟨gb415, 0, none⟩ (.int .u8 ((rd_T40 l0 x56_3).f0))).setCell ⟨gb415, 1, none⟩ (.int .u8 ((rd_T40 l0 x56_3).f1))).setCell ⟨gb415, 2, none⟩ (.int .u8 ((rd_T40 l0 x56_3).f2))).setCell ⟨gb415, 3, none⟩ (.int .i16 ((rd_T40 l0 x56_3).f3))).setCell ⟨gb415, 4, none⟩ (.int .i32 ((rd_T40 l0 x56_3).f4))) w.heap.size (fun k_ => some k_ ≠ (v411 : Value).ownBlock) v402 t401) := ⟨by (with_reducible repeat (first | apply Kd.R_alloc | apply Kd.R_drewN | apply Kd.R_drew)); exact Kd.R_mono (Kd.R_far (p := ⟨gb415, 4, none⟩) (Kd.R_far (p := ⟨gb415, 3, none⟩) (Kd.R_far (p := ⟨gb415, 2, none⟩) (Kd.R_far (p := ⟨gb415, 1, none⟩) (Kd.R_far (p := ⟨gb415, 0, none⟩) (Kd.R_types HO_8.out BK415.out (by decide)) (fun _ hk => hk.2) (.int .u8 ((rd_T40 l0 x56_3).f0))) (fun _ hk => hk.2) (.int .u8 ((rd_T40 l0 x56_3).f1))) (fun _ hk => hk.2) (.int .u8 ((rd_T40 l0 x56_3).f2))) (fun _ hk => hk.2) (.int .i16 ((rd_T40 l0 x56_3).f3))) (fun _ hk => hk.2) (.int .i32 ((rd_T40 l0 x56_3).f4))) (fun _ hk => hk.1)⟩
                have n1_ : Aside0 (Kd.R Kd.bool 4 (((((w39.setCell ⟨gb415, 0, none⟩ (.int .u8 ((rd_T40 l0 x56_3).f0))).setCell ⟨gb415, 1, none⟩ (.int .u8 ((rd_T40 l0 x56_3).f1))).setCell ⟨gb415, 2, none⟩ (.int .u8 ((rd_T40 l0 x56_3).f2))).setCell ⟨gb415, 3, none⟩ (.int .i16 ((rd_T40 l0 x56_3).f3))).setCell ⟨gb415, 4, none⟩ (.int .i32 ((rd_T40 l0 x56_3).f4))) w.heap.size (fun k_ => some k_ ≠ (v402 : Value).ownBlock) v411 t410) := ⟨by (with_reducible repeat (first | apply Kd.R_alloc | apply Kd.R_drewN | apply Kd.R_drew)); exact Kd.R_mono (Kd.R_far (p := ⟨gb415, 4, none⟩) (Kd.R_far (p := ⟨gb415, 3, none⟩) (Kd.R_far (p := ⟨gb415, 2, none⟩) (Kd.R_far (p := ⟨gb415, 1, none⟩) (Kd.R_far (p := ⟨gb415, 0, none⟩) (Kd.R_types HO_10.out BK415.out (by decide)) (fun _ hk => hk.2) (.int .u8 ((rd_T40 l0 x56_3).f0))) (fun _ hk => hk.2) (.int .u8 ((rd_T40 l0 x56_3).f1))) (fun _ hk => hk.2) (.int .u8 ((rd_T40 l0 x56_3).f2))) (fun _ hk => hk.2) (.int .i16 ((rd_T40 l0 x56_3).f3))) (fun _ hk => hk.2) (.int .i32 ((rd_T40 l0 x56_3).f4))) (fun _ hk => hk.1)⟩
                have n2_ : Aside0 ((((((w39.setCell ⟨gb415, 0, none⟩ (.int .u8 ((rd_T40 l0 x56_3).f0))).setCell ⟨gb415, 1, none⟩ (.int .u8 ((rd_T40 l0 x56_3).f1))).setCell ⟨gb415, 2, none⟩ (.int .u8 ((rd_T40 l0 x56_3).f2))).setCell ⟨gb415, 3, none⟩ (.int .i16 ((rd_T40 l0 x56_3).f3))).setCell ⟨gb415, 4, none⟩ (.int .i32 ((rd_T40 l0 x56_3).f4))).heap[gb415]? = some (.cells #[.int .u8 ((rd_T40 l0 x56_3).f0), .int .u8 ((rd_T40 l0 x56_3).f1), .int .u8 ((rd_T40 l0 x56_3).f2), .int .i16 ((rd_T40 l0 x56_3).f3), .int .i32 ((rd_T40 l0 x56_3).f4)] 40 (0, 0))) := ⟨bk_now⟩
                have n3_ : Aside0 (Below w.heap.size w (((((w39.setCell ⟨gb415, 0, none⟩ (.int .u8 ((rd_T40 l0 x56_3).f0))).setCell ⟨gb415, 1, none⟩ (.int .u8 ((rd_T40 l0 x56_3).f1))).setCell ⟨gb415, 2, none⟩ (.int .u8 ((rd_T40 l0 x56_3).f2))).setCell ⟨gb415, 3, none⟩ (.int .i16 ((rd_T40 l0 x56_3).f3))).setCell ⟨gb415, 4, none⟩ (.int .i32 ((rd_T40 l0 x56_3).f4)))) := ⟨b_now⟩
                (try clear HO_8)
                (try clear HO_10)
                (try clear BK415)
                (try clear HB)
                generalize (((((w39.setCell ⟨gb415, 0, none⟩ (.int .u8 ((rd_T40 l0 x56_3).f0))).setCell ⟨gb415, 1, none⟩ (.int .u8 ((rd_T40 l0 x56_3).f1))).setCell ⟨gb415, 2, none⟩ (.int .u8 ((rd_T40 l0 x56_3).f2))).setCell ⟨gb415, 3, none⟩ (.int .i16 ((rd_T40 l0 x56_3).f3))).setCell ⟨gb415, 4, none⟩ (.int .i32 ((rd_T40 l0 x56_3).f4))) = w41 at n0_ n1_ n2_ n3_ ⊢
                have HO_8 := n0_
                have HO_10 := n1_
                have BK415 := n2_
                have HB := n3_
                clear n0_ n1_ n2_ n3_
                have n0_ := Aside0.mk (Kd.R_drew HO_8.out)
                have n1_ := Aside0.mk (Kd.R_drew HO_10.out)
                have n2_ := Aside0.mk (blk_drew BK415.out)
                have n3_ := Aside0.mk (below_drew1 HB.out)
                clear HO_8
                clear HO_10
                clear BK415
                clear HB
                have HO_8 := n0_
                have HO_10 := n1_
                have BK415 := n2_
                have HB := n3_
                clear n0_ n1_ n2_ n3_
                obtain ⟨Ao43, co43, eo43⟩ := Kd.R_slice HO_10.out
                (first | subst eo43 | (injection eo43 with f1_ f2_ f3_; have f4_ := f1_.symm; have f5_ := f3_.symm; clear f1_ f2_ f3_; subst f4_; subst f5_))
                have p416 : 0 ≤ (x56_3 : Int) := of_decide_eq_true (by first | (with_reducible assumption) | assumption)
                have q416 : x56_3 < (t410.length : Int) := of_decide_eq_true (by first | (with_reducible assumption) | assumption)
                obtain ⟨ad416, e416, hx416_0⟩ := Kd.at_bool (Kd.R_reads' HO_10.out).2.2 x56_3 p416 q416
                cases e416
                replace p416 := eq_true p416
                replace q416 := eq_true q416
                obtain ⟨Ao44, co44, eo44⟩ := Kd.R_slice HO_8.out
                (first | subst eo44 | (injection eo44 with f1_ f2_ f3_; have f4_ := f1_.symm; have f5_ := f3_.symm; clear f1_ f2_ f3_; subst f4_; subst f5_))
                have p417 : 0 ≤ (x56_3 : Int) := of_decide_eq_true (by first | (with_reducible assumption) | assumption)
                have q417 : x56_3 < (t401.length : Int) := of_decide_eq_true (by first | (with_reducible assumption) | assumption)
                obtain ⟨ad417, e417, hx417_0⟩ := Kd.at_bool (Kd.R_reads' HO_8.out).2.2 x56_3 p417 q417
                cases e417
                replace p417 := eq_true p417
                replace q417 := eq_true q417
                refine start_ (n := 20) (S := fun w' => w'.cell? ⟨gb415, 0, none⟩ = some (.int .u8 ((rd_T40 l0 x56_3).f0)) ∧ w'.cell? ⟨gb415, 1, none⟩ = some (.int .u8 ((rd_T40 l0 x56_3).f1)) ∧ w'.cell? ⟨gb415, 2, none⟩ = some (.int .u8 ((rd_T40 l0 x56_3).f2)) ∧ w'.cell? ⟨gb415, 3, none⟩ = some (.int .i16 ((rd_T40 l0 x56_3).f3)) ∧ w'.cell? ⟨gb415, 4, none⟩ = some (.int .i32 ((rd_T40 l0 x56_3).f4)) ∧ w'.cell? (ad416.add (x56_3).toNat) = some (.bool (rdOf false t410 x56_3)) ∧ w'.cell? (ad417.add (x56_3).toNat) = some (.bool (rdOf false t401 x56_3))) (ds := []) #[false, false, false, false, false, false, false, false, false, false, false, false, false, false, false, false, false, false, false, false] (by kernel_rfl) rfl rfl ⟨(blk_cell BK415.out 0).trans rfl, (blk_cell BK415.out 1).trans rfl, (blk_cell BK415.out 2).trans rfl, (blk_cell BK415.out 3).trans rfl, (blk_cell BK415.out 4).trans rfl, hx416_0, hx417_0⟩ (fun hHeld => ?_); refine with_tabW stockadelaw04_ShapeStarts.tab15 stockadelaw04_ShapeStarts.bits15 (fun HT_ HW_ => ?_)
                generalize w41.drew = w42 at HO_8 HO_10 BK415 HB hx416_0 hx417_0 hHeld ⊢
                refine pure_ (i := 0) (N := some 61) (v := ?_) (a' := ?_) #[true, false, false, false, false, false, false, false, false, false, false, false, false, false, false, false, false, false, false, false] rfl rfl (any_of HT_.out (by kernel_rfl)) (fun _ _ _ h => h) (Or.inl ⟨by rfl, ?_⟩) ?_ ?_
                rotate_left
                ·intro w'
                 go_simp
                 with_reducible rfl
                rotate_left
                ·simp only [Act.put, List.setIfInBounds_toArray, List.set_cons_zero, List.set_cons_succ, i64_w, i32_w]
                 rfl
                refine pure_ (i := 1) (N := some 62) (v := ?_) (a' := ?_) #[true, true, false, false, false, false, false, false, false, false, false, false, false, false, false, false, false, false, false, false] rfl rfl (any_of HT_.out (by kernel_rfl)) (fun _ _ _ h => h) (Or.inl ⟨by rfl, ?_⟩) ?_ ?_
                rotate_left
                ·intro w'
                 go_simp
                 with_reducible rfl
                rotate_left
                ·simp only [Act.put, List.setIfInBounds_toArray, List.set_cons_zero, List.set_cons_succ, i64_w, i32_w]
                 rfl
                refine pure_ (i := 2) (N := some 63) (v := ?_) (a' := ?_) #[true, true, true, false, false, false, false, false, false, false, false, false, false, false, false, false, false, false, false, false] rfl rfl (any_of HT_.out (by kernel_rfl)) (fun _ _ _ h => h) (Or.inl ⟨by rfl, ?_⟩) ?_ ?_
                rotate_left
                ·intro w'
                 go_simp
                 with_reducible rfl
                rotate_left
                ·simp only [Act.put, List.setIfInBounds_toArray, List.set_cons_zero, List.set_cons_succ, i64_w, i32_w]
                 rfl
                refine pure_ (i := 4) (N := some 65) (v := ?_) (a' := ?_) #[true, true, true, false, true, false, false, false, false, false, false, false, false, false, false, false, false, false, false, false] rfl rfl (any_of HT_.out (by kernel_rfl)) (fun _ _ _ h => h) (Or.inl ⟨by rfl, ?_⟩) ?_ ?_
                rotate_left
                ·intro w'
                 go_simp
                 with_reducible rfl
                rotate_left
                ·simp only [Act.put, List.setIfInBounds_toArray, List.set_cons_zero, List.set_cons_succ, i64_w, i32_w]
                 rfl
                refine pure_ (i := 5) (N := some 66) (v := ?_) (a' := ?_) #[true, true, true, false, true, true, false, false, false, false, false, false, false, false, false, false, false, false, false, false] rfl rfl (any_of HT_.out (by kernel_rfl)) (fun _ _ _ h => h) (Or.inl ⟨by rfl, ?_⟩) ?_ ?_
                rotate_left
                ·intro w'
                 go_simp
                 with_reducible rfl
                rotate_left
                ·simp only [Act.put, List.setIfInBounds_toArray, List.set_cons_zero, List.set_cons_succ, i64_w, i32_w]
                 rfl
                refine pure_ (i := 6) (N := some 67) (v := ?_) (a' := ?_) #[true, true, true, false, true, true, true, false, false, false, false, false, false, false, false, false, false, false, false, false] rfl rfl (any_of HT_.out (by kernel_rfl)) (fun _ _ _ h => h) (Or.inl ⟨by rfl, ?_⟩) ?_ ?_
                rotate_left
                ·intro w'
                 go_simp
                 with_reducible rfl
                rotate_left
                ·simp only [Act.put, List.setIfInBounds_toArray, List.set_cons_zero, List.set_cons_succ, i64_w, i32_w]
                 rfl
                refine take_ (i := 3) (N := some 64) (v := ?_) (a' := ?_) #[true, true, true, true, true, true, true, false, false, false, false, false, false, false, false, false, false, false, false, false] rfl rfl (take_ofW HT_.out HW_.out (by kernel_rfl)) (fun _ _ _ h => h) (Or.inl ⟨by rfl, ?_⟩) hHeld ?_ ?_
                rotate_left
                ·rintro w' ⟨s0, s1, s2, s3, s4, s5, s6⟩
                 go_simp
                 with_reducible rfl
                rotate_left
                ·simp only [Act.put, List.setIfInBounds_toArray, List.set_cons_zero, List.set_cons_succ, i64_w, i32_w]
                 rfl
                refine take_ (i := 7) (N := some 68) (v := ?_) (a' := ?_) #[true, true, true, true, true, true, true, true, false, false, false, false, false, false, false, false, false, false, false, false] rfl rfl (take_ofW HT_.out HW_.out (by kernel_rfl)) (fun _ _ _ h => h) (Or.inl ⟨by rfl, ?_⟩) hHeld ?_ ?_
                rotate_left
                ·rintro w' ⟨s0, s1, s2, s3, s4, s5, s6⟩
                 go_simp
                 with_reducible rfl
                rotate_left
                ·simp only [Act.put, List.setIfInBounds_toArray, List.set_cons_zero, List.set_cons_succ, i64_w, i32_w]
                 rfl
                refine pure_ (i := 8) (N := some 69) (v := ?_) (a' := ?_) #[true, true, true, true, true, true, true, true, true, false, false, false, false, false, false, false, false, false, false, false] rfl rfl (any_of HT_.out (by kernel_rfl)) (fun _ _ _ h => h) (Or.inl ⟨by rfl, ?_⟩) ?_ ?_
                rotate_left
                ·intro w'
                 go_simp
                 with_reducible rfl
                rotate_left
                ·simp only [Act.put, List.setIfInBounds_toArray, List.set_cons_zero, List.set_cons_succ, i64_w, i32_w]
                 rfl
                refine pure_ (i := 9) (N := some 70) (v := ?_) (a' := ?_) #[true, true, true, true, true, true, true, true, true, true, false, false, false, false, false, false, false, false, false, false] rfl rfl (any_of HT_.out (by kernel_rfl)) (fun _ _ _ h => h) (Or.inl ⟨by rfl, ?_⟩) ?_ ?_
                rotate_left
                ·intro w'
                 go_simp
                 with_reducible rfl
                rotate_left
                ·simp only [Act.put, List.setIfInBounds_toArray, List.set_cons_zero, List.set_cons_succ, i64_w, i32_w]
                 rfl
                refine pure_ (i := 10) (N := some 71) (v := ?_) (a' := ?_) #[true, true, true, true, true, true, true, true, true, true, true, false, false, false, false, false, false, false, false, false] rfl rfl (any_of HT_.out (by kernel_rfl)) (fun _ _ _ h => h) (Or.inl ⟨by rfl, ?_⟩) ?_ ?_
                rotate_left
                ·intro w'
                 go_simp
                 with_reducible rfl
                rotate_left
                ·simp only [Act.put, List.setIfInBounds_toArray, List.set_cons_zero, List.set_cons_succ, i64_w, i32_w]
                 rfl
                refine pure_ (i := 11) (N := some 72) (v := ?_) (a' := ?_) #[true, true, true, true, true, true, true, true, true, true, true, true, false, false, false, false, false, false, false, false] rfl rfl (any_of HT_.out (by kernel_rfl)) (fun _ _ _ h => h) (Or.inl ⟨by rfl, ?_⟩) ?_ ?_
                rotate_left
                ·intro w'
                 go_simp
                 with_reducible rfl
                rotate_left
                ·simp only [Act.put, List.setIfInBounds_toArray, List.set_cons_zero, List.set_cons_succ, i64_w, i32_w]
                 rfl
                refine pure_ (i := 14) (N := some 75) (v := ?_) (a' := ?_) #[true, true, true, true, true, true, true, true, true, true, true, true, false, false, true, false, false, false, false, false] rfl rfl (any_of HT_.out (by kernel_rfl)) (fun _ _ _ h => h) (Or.inl ⟨by rfl, ?_⟩) ?_ ?_
                rotate_left
                ·intro w'
                 go_simp
                 with_reducible rfl
                rotate_left
                ·simp only [Act.put, List.setIfInBounds_toArray, List.set_cons_zero, List.set_cons_succ, i64_w, i32_w]
                 rfl
                refine pure_ (i := 15) (N := some 76) (v := ?_) (a' := ?_) #[true, true, true, true, true, true, true, true, true, true, true, true, false, false, true, true, false, false, false, false] rfl rfl (any_of HT_.out (by kernel_rfl)) (fun _ _ _ h => h) (Or.inl ⟨by rfl, ?_⟩) ?_ ?_
                rotate_left
                ·intro w'
                 go_simp
                 with_reducible rfl
                rotate_left
                ·simp only [Act.put, List.setIfInBounds_toArray, List.set_cons_zero, List.set_cons_succ, i64_w, i32_w]
                 rfl
                refine take_ (i := 12) (N := some 73) (v := ?_) (a' := ?_) #[true, true, true, true, true, true, true, true, true, true, true, true, true, false, true, true, false, false, false, false] rfl rfl (take_ofW HT_.out HW_.out (by kernel_rfl)) (fun _ _ _ h => h) (Or.inl ⟨by rfl, ?_⟩) hHeld ?_ ?_
                rotate_left
                ·rintro w' ⟨s0, s1, s2, s3, s4, s5, s6⟩
                 go_simp
                 with_reducible rfl
                rotate_left
                ·simp only [Act.put, List.setIfInBounds_toArray, List.set_cons_zero, List.set_cons_succ, i64_w, i32_w]
                 rfl
                refine take_ (i := 16) (N := some 77) (v := ?_) (a' := ?_) #[true, true, true, true, true, true, true, true, true, true, true, true, true, false, true, true, true, false, false, false] rfl rfl (take_ofW HT_.out HW_.out (by kernel_rfl)) (fun _ _ _ h => h) (Or.inl ⟨by rfl, ?_⟩) hHeld ?_ ?_
                rotate_left
                ·rintro w' ⟨s0, s1, s2, s3, s4, s5, s6⟩
                 go_simp
                 with_reducible rfl
                rotate_left
                ·simp only [Act.put, List.setIfInBounds_toArray, List.set_cons_zero, List.set_cons_succ, i64_w, i32_w]
                 rfl
                refine one_ (i := 13) (N := some 74) #[true, true, true, true, true, true, true, true, true, true, true, true, true, true, true, true, true, false, false, false] rfl rfl (one_of HT_.out (by kernel_rfl)) (by decide) (fun K hK => ?_)
                refine goes_ Tryd.func19 (by kernel_rfl) rfl #[.int .i64 (a1 / 2), .agg #[.int .u8 ((rd_T40 l0 x56_3).f0), .int .u8 ((rd_T40 l0 x56_3).f1), .int .u8 ((rd_T40 l0 x56_3).f2), .int .i16 ((rd_T40 l0 x56_3).f3), .int .i32 ((rd_T40 l0 x56_3).f4)]] (by rfl) rfl rfl (by (try simp only [List.map_toArray, List.map_cons, List.map_nil]); first | done | rfl | (simp only [List.length_drop, List.length_take]; rfl)) ?_
                with_reducible refine (shape_Target.calls (a1 / 2) ((rd_T40 l0 x56_3).f0) ((rd_T40 l0 x56_3).f1) ((rd_T40 l0 x56_3).f2) ((rd_T40 l0 x56_3).f3) ((rd_T40 l0 x56_3).f4) t418 _ A36.out).mono ?_
                rintro e w45 ⟨rfl, hb⟩
                have HS5_ := (hb.cell (World.block_lt_of_cell? _ _ (hHeld.2.2.2.2.2.1))).trans (hHeld.2.2.2.2.2.1)
                have HS6_ := (hb.cell (World.block_lt_of_cell? _ _ (hHeld.2.2.2.2.2.2))).trans (hHeld.2.2.2.2.2.2)
                refine ⟨_, rfl, ?_⟩
                have n0_ := Aside0.mk (Kd.R_below (by (with_reducible repeat (first | apply Kd.R_alloc | apply Kd.R_drewN | apply Kd.R_drew)); exact HO_8.out) hb)
                have n1_ := Aside0.mk (Kd.R_below (by (with_reducible repeat (first | apply Kd.R_alloc | apply Kd.R_drewN | apply Kd.R_drew)); exact HO_10.out) hb)
                have n2_ := Aside0.mk (blk_below (g := gb415) (o := .cells #[.int .u8 ((rd_T40 l0 x56_3).f0), .int .u8 ((rd_T40 l0 x56_3).f1), .int .u8 ((rd_T40 l0 x56_3).f2), .int .i16 ((rd_T40 l0 x56_3).f3), .int .i32 ((rd_T40 l0 x56_3).f4)] 40 (0, 0)) bk_now hb)
                have n3_ := Aside0.mk (below_step b_now hb)
                clear HO_8
                clear HO_10
                clear BK415
                clear HB
                have HO_8 := n0_
                have HO_10 := n1_
                have BK415 := n2_
                have HB := n3_
                clear n0_ n1_ n2_ n3_
                (try clear hb)
                (try clear hb2)
                (try clear hk)
                (try clear hi)
                refine hK.out _ _ ⟨(blk_cell BK415.out 0).trans rfl, (blk_cell BK415.out 1).trans rfl, (blk_cell BK415.out 2).trans rfl, (blk_cell BK415.out 3).trans rfl, (blk_cell BK415.out 4).trans rfl, HS5_, HS6_⟩ (fun hHeld => ?_)
                clear hK K
                refine norm_ (a' := ?_) ?_ ?_
                rotate_left
                ·show Act.put _ (some 74) _ = _
                 simp only [Act.put, List.setIfInBounds_toArray, List.set_cons_zero, List.set_cons_succ, i64_w, i32_w]
                 rfl
                refine one_ (i := 17) (N := some 78) #[true, true, true, true, true, true, true, true, true, true, true, true, true, true, true, true, true, true, false, false] rfl rfl (one_of HT_.out (by kernel_rfl)) (by decide) (fun K hK => ?_)
                refine goes_ Tryd.func20 (by kernel_rfl) rfl #[.int .i64 (a1 / 2), .agg #[.int .u8 ((rd_T40 l0 x56_3).f0), .int .u8 ((rd_T40 l0 x56_3).f1), .int .u8 ((rd_T40 l0 x56_3).f2), .int .i16 ((rd_T40 l0 x56_3).f3), .int .i32 ((rd_T40 l0 x56_3).f4)]] (by rfl) rfl rfl (by (try simp only [List.map_toArray, List.map_cons, List.map_nil]); first | done | rfl | (simp only [List.length_drop, List.length_take]; rfl)) ?_
                with_reducible refine (stockaderef04_Target.calls (a1 / 2) ((rd_T40 l0 x56_3).f0) ((rd_T40 l0 x56_3).f1) ((rd_T40 l0 x56_3).f2) ((rd_T40 l0 x56_3).f3) ((rd_T40 l0 x56_3).f4) t419 _ A37.out).mono ?_
                rintro e w46 ⟨rfl, hb⟩
                have HS5_ := (hb.cell (World.block_lt_of_cell? _ _ (hHeld.2.2.2.2.2.1))).trans (hHeld.2.2.2.2.2.1)
                have HS6_ := (hb.cell (World.block_lt_of_cell? _ _ (hHeld.2.2.2.2.2.2))).trans (hHeld.2.2.2.2.2.2)
                refine ⟨_, rfl, ?_⟩
                have n0_ := Aside0.mk (Kd.R_below (by (with_reducible repeat (first | apply Kd.R_alloc | apply Kd.R_drewN | apply Kd.R_drew)); exact HO_8.out) hb)
                have n1_ := Aside0.mk (Kd.R_below (by (with_reducible repeat (first | apply Kd.R_alloc | apply Kd.R_drewN | apply Kd.R_drew)); exact HO_10.out) hb)
                have n2_ := Aside0.mk (blk_below (g := gb415) (o := .cells #[.int .u8 ((rd_T40 l0 x56_3).f0), .int .u8 ((rd_T40 l0 x56_3).f1), .int .u8 ((rd_T40 l0 x56_3).f2), .int .i16 ((rd_T40 l0 x56_3).f3), .int .i32 ((rd_T40 l0 x56_3).f4)] 40 (0, 0)) bk_now hb)
                have n3_ := Aside0.mk (below_step b_now hb)
                clear HO_8
                clear HO_10
                clear BK415
                clear HB
                have HO_8 := n0_
                have HO_10 := n1_
                have BK415 := n2_
                have HB := n3_
                clear n0_ n1_ n2_ n3_
                (try clear hb)
                (try clear hb2)
                (try clear hk)
                (try clear hi)
                refine hK.out _ _ ⟨(blk_cell BK415.out 0).trans rfl, (blk_cell BK415.out 1).trans rfl, (blk_cell BK415.out 2).trans rfl, (blk_cell BK415.out 3).trans rfl, (blk_cell BK415.out 4).trans rfl, HS5_, HS6_⟩ (fun hHeld => ?_)
                clear hK K
                refine norm_ (a' := ?_) ?_ ?_
                rotate_left
                ·show Act.put _ (some 78) _ = _
                 simp only [Act.put, List.setIfInBounds_toArray, List.set_cons_zero, List.set_cons_succ, i64_w, i32_w]
                 rfl
                refine pure_ (i := 18) (N := some 79) (v := ?_) (a' := ?_) #[true, true, true, true, true, true, true, true, true, true, true, true, true, true, true, true, true, true, true, false] rfl rfl (any_of HT_.out (by kernel_rfl)) (fun _ _ _ h => h) (Or.inl ⟨by rfl, ?_⟩) ?_ ?_
                rotate_left
                ·intro w'
                 go_simp
                 with_reducible rfl
                rotate_left
                ·simp only [Act.put, List.setIfInBounds_toArray, List.set_cons_zero, List.set_cons_succ, i64_w, i32_w]
                 rfl
                refine pure_ (i := 19) (N := some 80) (v := ?_) (a' := ?_) #[true, true, true, true, true, true, true, true, true, true, true, true, true, true, true, true, true, true, true, true] rfl rfl (any_of HT_.out (by kernel_rfl)) (fun _ _ _ h => h) (Or.inl ⟨by rfl, ?_⟩) ?_ ?_
                rotate_left
                ·intro w'
                 go_simp
                 with_reducible rfl
                rotate_left
                ·simp only [Act.put, List.setIfInBounds_toArray, List.set_cons_zero, List.set_cons_succ, i64_w, i32_w]
                 rfl
                refine done_ (done_of HT_.out (by kernel_rfl)) ?_
                try go_wp2
                go_roundg k3
                case measure => have := HJ5.out; have := HK2.out; have := HK3.out; omega
                case rel => exact ⟨(wrap64 (x56_3 + 1)), eq_now, H', ⟨by have := HJ5.out; have := HK2.out; have := HK3.out; omega⟩, ⟨by (try simp only [hl7_2]); (with_reducible repeat (first | apply Kd.R_alloc | apply Kd.R_drewN | apply Kd.R_drew)); exact HO_8.out⟩, ⟨by (try simp only [hl7_2]); (with_reducible repeat (first | apply Kd.R_alloc | apply Kd.R_drewN | apply Kd.R_drew)); exact HO_10.out⟩, ⟨b_now⟩⟩
               ·rw [if_neg c38] at H
                have c38b0 : (t418 == t419) = false := beq_eq_false_iff_ne.mpr c38
                have c38b1 : (t418 != t419) = true := bne_iff_ne.mpr c38
                obtain rfl := Option.some.inj H
                exact absurd HRT.out (by simp)
             ·rw [if_neg c34] at H
              exact absurd H (by simp)
            ·rw [if_neg c33] at H
             exact absurd H (by simp)
           ·rw [if_neg c32] at H
            exact absurd H (by simp)
          ·rw [if_neg c31] at H
           exact absurd H (by simp)
         ·rw [if_neg c30] at H
          have c30b0 : decide (x56_3 < (l0.length : Int)) = false := decide_eq_false c30
          clear c30
          replace H := Option.bind_eq_some_iff.mp H; obtain ⟨t413, A470, H⟩ := H; try dsimp only at H
          have A47 := Aside0.mk A470
          clear A470
          obtain rfl := Option.some.inj H
          go_wp2_with (first | ((with_reducible refine gate_callee (f := 13) rfl ?_); refine sh_call (some 82) Tryd.func13 #[] ?_; (with_reducible refine (stockadelaw04_awake.calls  t413 _ ?side1 (by first | rfl | exact HRT.out) A47.out).mono ?_); (case side1 => repeat (first | exact (Kd.C_below HRG0.out HB.out) | (with_reducible refine Kd.C_alloc ?_ _) | (with_reducible refine Kd.C_drewN ?_ _) | (with_reducible refine Kd.C_drew ?_))); rintro e w48 ⟨rfl, hb⟩; refine ⟨_, rfl, ?_⟩; replace HO_8 := Aside0.mk (Kd.R_below (by (with_reducible repeat (first | apply Kd.R_alloc | apply Kd.R_drewN | apply Kd.R_drew)); exact HO_8.out) hb); replace HO_10 := Aside0.mk (Kd.R_below (by (with_reducible repeat (first | apply Kd.R_alloc | apply Kd.R_drewN | apply Kd.R_drew)); exact HO_10.out) hb); replace HB := sh_b (w := w) hb; (try clear hb); (try clear hb2); (try clear hk); (try clear hi)))
          go_ret
          exact ⟨ret_now, b_now⟩

/-! ### stockadelaw04_right: function 21 -/
def stockadelaw04_right.f (l0_0 : List (S52)) (l0_1 : List (S40)) : Option (Bool) := (shape_Check.f l0_0 l0_1).bind fun bt421 => (some (bt421.2 == 0))
set_option maxHeartbeats 8000000 in
set_option maxRecDepth 100000 in
theorem stockadelaw04_right.calls (A0_0 : Option Addr) (c0_0 : Nat) (l0_0 : List (S52)) (A0_1 : Option Addr) (c0_1 : Nat) (l0_1 : List (S40)) (r : Bool) (w : World) (hr0_0 : Kd.C k52 w A0_0 l0_0.length l0_0) (hc0_0 : l0_0.length ≤ c0_0) (hr0_1 : Kd.C k40 w A0_1 l0_1.length l0_1) (hc0_1 : l0_1.length ≤ c0_1) (hrG0 : Kd.C (Kd.int .i64) w (some ⟨0, 0, none⟩) gl0.length gl0) (h : stockadelaw04_right.f l0_0 l0_1 = some r) :
  Calls Tryd.prog 21 #[.agg #[.slice A0_0 l0_0.length c0_0, .slice A0_1 l0_1.length c0_1]] w fun e w' => e = .returned (.bool r) ∧ Below w.heap.size w w' := by
 have hu25 := Tryd.underlying25
 have HR0_0 := Aside0.mk hr0_0
 have HC0_0 := Aside0.mk hc0_0
 clear hr0_0 hc0_0
 have HR0_1 := Aside0.mk hr0_1
 have HC0_1 := Aside0.mk hc0_1
 clear hr0_1 hc0_1
 have HRG0 := Aside0.mk hrG0
 clear hrG0
 have HB := Aside0.mk (Below.refl w.heap.size w)
 have H : ((shape_Check.f l0_0 l0_1).bind fun bt421 => (some (bt421.2 == 0))) = some r := h
 clear h
 replace H := Option.bind_eq_some_iff.mp H; obtain ⟨⟨t421, t422⟩, A20, H⟩ := H; try dsimp only at H
 have A2 := Aside0.mk A20
 clear A20
 obtain rfl := Option.some.inj H
 go_enter Tryd.func21, Tryd.ntmps21
 go_wp2_with (first | ((with_reducible refine gate_dst (N := 1) rfl ?_); refine sh_box 1 #[.slice A0_0 l0_0.length c0_0, .slice A0_1 l0_1.length c0_1] 25 ?_; intro gb420 hg w3 hbox hb; have GE420 := sh_z (w := w) hg; replace HB := sh_b (w := w) hb; have BK420 := Aside0.mk (hbox); clear hb hbox hg; have hcz4 := blk_all2 BK420.out) | ((with_reducible refine gate_callee (f := 11) rfl ?_); refine sh_call (some 7) Tryd.func11 #[.agg #[.slice A0_0 l0_0.length c0_0, .slice A0_1 l0_1.length c0_1]] ?_; (with_reducible refine (shape_Check.calls _ _ l0_0 _ _ l0_1 t421 t422 _ ?side1 ?side2 ?side3 ?side4 ?side5 A2.out).mono ?_); (case side1 => repeat (first | exact (Kd.C_below HR0_0.out HB.out) | (with_reducible refine Kd.C_alloc ?_ _) | (with_reducible refine Kd.C_drewN ?_ _) | (with_reducible refine Kd.C_drew ?_))); (case side2 => exact HC0_0.out); (case side3 => repeat (first | exact (Kd.C_below HR0_1.out HB.out) | (with_reducible refine Kd.C_alloc ?_ _) | (with_reducible refine Kd.C_drewN ?_ _) | (with_reducible refine Kd.C_drew ?_))); (case side4 => exact HC0_1.out); (case side5 => repeat (first | exact (Kd.C_below HRG0.out HB.out) | (with_reducible refine Kd.C_alloc ?_ _) | (with_reducible refine Kd.C_drewN ?_ _) | (with_reducible refine Kd.C_drew ?_))); rintro e w5 ⟨rfl, hb⟩; refine ⟨_, rfl, ?_⟩; replace BK420 := sh_k BK420 hb; replace HB := sh_b (w := w) hb; (try clear hb); (try clear hb2); (try clear hk); (try clear hi)))
 go_ret
 exact ⟨ret_now, b_now⟩

end Go.Proofs.YtdhiibkcoolbeaaDoor.P
