/- Made by this session's driver over the kit's printer: for each Go function a Lean function with the same answers, and a proof that the Go call comes to these answers; no conditions but the ones each theorem names. -/
import Derived.Test.YtondogoepcndiaaDoorPx0
namespace Go.Proofs.YtondogoepcndiaaDoor.P
open Go.RowKit Go.Proofs.YtondogoepcndiaaDoorW.PrintWords Go.Proofs.YtondogoepcndiaaDoorW.PrintLast Go.Proofs.YtondogoepcndiaaDoorW.PrintMore
attribute [local go_sem] max2_int min2_int max_two min_two max_three min_three max_four min_four   -- for this text's walks alone
set_option linter.unusedVariables false
set_option linter.unusedSimpArgs false

/-! ### stockaderef02_Rows: function 42 -/
mutual
def stockaderef02_Rows.l0 : Nat → List (S84) → Int → Option ((List (S84)))
 | 0, _, _ => none
 | k + 1, x1, x2 => if x2 ≤ 12 then (if x2 = 8 then (if x1.length < 1759218604441 then ((some (x1 ++ [(⟨(wrap64 ((wrap64 (16 * x2)) + 4)) % 256, (⟨1, x2, 0, false, false⟩ : S59), 2, 0, 0, 0, 0⟩ : S84)] : List (S84))).bind fun y350 => (if y350.length < 1759218604441 then (stockaderef02_Rows.l0 k (y350 ++ [(⟨(wrap64 ((wrap64 (16 * x2)) + 7)) % 256, (⟨1, x2, 0, true, false⟩ : S59), 2, 0, 0, 0, 0⟩ : S84)]) (wrap64 (x2 + 1))) else (none))) else (none)) else (if x1.length < 1759218604441 then ((some (x1 ++ [(⟨(wrap64 ((wrap64 (16 * x2)) + 4)) % 256, (⟨1, x2, 0, false, false⟩ : S59), 2, 0, 0, 3, 0⟩ : S84)] : List (S84))).bind fun y356 => (if y356.length < 1759218604441 then ((some (y356 ++ [(⟨(wrap64 ((wrap64 (16 * x2)) + 7)) % 256, (⟨1, x2, 0, true, false⟩ : S59), 2, 0, 0, 3, 0⟩ : S84)] : List (S84))).bind fun y359 => (if y359.length < 1759218604441 then ((some (y359 ++ [(⟨(wrap64 ((wrap64 (16 * x2)) + 12)) % 256, (⟨1, x2, 0, false, true⟩ : S59), 2, 1, 0, 0, 0⟩ : S84)] : List (S84))).bind fun y362 => (if y362.length < 1759218604441 then (stockaderef02_Rows.l0 k (y362 ++ [(⟨(wrap64 ((wrap64 (16 * x2)) + 15)) % 256, (⟨1, x2, 0, true, true⟩ : S59), 2, 1, 0, 0, 0⟩ : S84)]) (wrap64 (x2 + 1))) else (none))) else (none))) else (none))) else (none))) else (stockaderef02_Rows.l1 k x1 2)
def stockaderef02_Rows.l1 : Nat → List (S84) → Int → Option ((List (S84)))
 | 0, _, _ => none
 | k + 1, x1, x4 => if x4 ≤ 8 then (if x1.length < 1759218604441 then (stockaderef02_Rows.l1 k (x1 ++ [(⟨215, (⟨2, 0, x4, false, false⟩ : S59), 2, 0, 0, 4, wrap64 (8 * x4)⟩ : S84)]) (wrap64 (2 * x4))) else (none)) else (stockaderef02_Rows.l2 k x1 0)
def stockaderef02_Rows.l2 : Nat → List (S84) → Int → Option ((List (S84)))
 | 0, _, _ => none
 | k + 1, x1, x5 => if x5 < 4 then (if x5 = 0 then (if x1.length < 1759218604441 then ((some (x1 ++ [(⟨(wrap64 (97 + (wrap64 (8 * x5)))) % 256, (⟨3, 0, 4, false, false⟩ : S59), 2, 1, 3, 0, 0⟩ : S84)] : List (S84))).bind fun y371 => (if y371.length < 1759218604441 then ((some (y371 ++ [(⟨(wrap64 (98 + (wrap64 (8 * x5)))) % 256, (⟨5, 0, 4, false, false⟩ : S59), 1, 0, 3, 3, 0⟩ : S84)] : List (S84))).bind fun y374 => (if y374.length < 1759218604441 then (stockaderef02_Rows.l2 k (y374 ++ [(⟨(wrap64 (99 + (wrap64 (8 * x5)))) % 256, (⟨4, 0, 4, false, false⟩ : S59), 1, 1, 3, 0, 0⟩ : S84)]) (wrap64 (x5 + 1))) else (none))) else (none))) else (none)) else (if x5 = 1 then (if x1.length < 1759218604441 then ((some (x1 ++ [(⟨(wrap64 (97 + (wrap64 (8 * x5)))) % 256, (⟨3, 0, 2, false, false⟩ : S59), 2, 1, 3, 0, 0⟩ : S84)] : List (S84))).bind fun y380 => (if y380.length < 1759218604441 then ((some (y380 ++ [(⟨(wrap64 (98 + (wrap64 (8 * x5)))) % 256, (⟨5, 0, 2, false, false⟩ : S59), 1, 0, 3, 3, 0⟩ : S84)] : List (S84))).bind fun y383 => (if y383.length < 1759218604441 then (stockaderef02_Rows.l2 k (y383 ++ [(⟨(wrap64 (99 + (wrap64 (8 * x5)))) % 256, (⟨4, 0, 2, false, false⟩ : S59), 1, 1, 3, 0, 0⟩ : S84)]) (wrap64 (x5 + 1))) else (none))) else (none))) else (none)) else (if x5 = 2 then (if x1.length < 1759218604441 then ((some (x1 ++ [(⟨(wrap64 (97 + (wrap64 (8 * x5)))) % 256, (⟨3, 0, 1, false, false⟩ : S59), 2, 1, 3, 0, 0⟩ : S84)] : List (S84))).bind fun y389 => (if y389.length < 1759218604441 then ((some (y389 ++ [(⟨(wrap64 (98 + (wrap64 (8 * x5)))) % 256, (⟨5, 0, 1, false, false⟩ : S59), 1, 0, 3, 3, 0⟩ : S84)] : List (S84))).bind fun y392 => (if y392.length < 1759218604441 then (stockaderef02_Rows.l2 k (y392 ++ [(⟨(wrap64 (99 + (wrap64 (8 * x5)))) % 256, (⟨4, 0, 1, false, false⟩ : S59), 1, 1, 3, 0, 0⟩ : S84)]) (wrap64 (x5 + 1))) else (none))) else (none))) else (none)) else (if x1.length < 1759218604441 then ((some (x1 ++ [(⟨(wrap64 (97 + (wrap64 (8 * x5)))) % 256, (⟨3, 0, 8, false, false⟩ : S59), 2, 1, 3, 0, 0⟩ : S84)] : List (S84))).bind fun y398 => (if y398.length < 1759218604441 then ((some (y398 ++ [(⟨(wrap64 (98 + (wrap64 (8 * x5)))) % 256, (⟨5, 0, 8, false, false⟩ : S59), 1, 0, 3, 3, 0⟩ : S84)] : List (S84))).bind fun y401 => (if y401.length < 1759218604441 then (stockaderef02_Rows.l2 k (y401 ++ [(⟨(wrap64 (99 + (wrap64 (8 * x5)))) % 256, (⟨4, 0, 8, false, false⟩ : S59), 1, 1, 3, 0, 0⟩ : S84)]) (wrap64 (x5 + 1))) else (none))) else (none))) else (none))))) else (stockaderef02_Rows.l3 k x1 1)
def stockaderef02_Rows.l3 : Nat → List (S84) → Int → Option ((List (S84)))
 | 0, _, _ => none
 | k + 1, x1, x7 => if x7 ≤ 13 then (if x7 = 8 then (stockaderef02_Rows.l3 k x1 (wrap64 (x7 + 1))) else (if x7 = 9 then (stockaderef02_Rows.l3 k x1 (wrap64 (x7 + 1))) else (if x1.length < 1759218604441 then ((some (x1 ++ [(⟨(wrap64 ((wrap64 (16 * x7)) + 5)) % 256, (⟨6, x7, 0, true, false⟩ : S59), 1, 0, 3, 3, 0⟩ : S84)] : List (S84))).bind fun y407 => (if y407.length < 1759218604441 then ((some (y407 ++ [(⟨(wrap64 ((wrap64 (16 * x7)) + 6)) % 256, (⟨6, x7, 0, false, false⟩ : S59), 1, 0, 3, 3, 0⟩ : S84)] : List (S84))).bind fun y410 => (if y410.length < 1759218604441 then ((some (y410 ++ [(⟨(wrap64 ((wrap64 (16 * x7)) + 13)) % 256, (⟨6, x7, 0, true, true⟩ : S59), 1, 1, 3, 0, 0⟩ : S84)] : List (S84))).bind fun y413 => (if y413.length < 1759218604441 then (stockaderef02_Rows.l3 k (y413 ++ [(⟨(wrap64 ((wrap64 (16 * x7)) + 14)) % 256, (⟨6, x7, 0, false, true⟩ : S59), 1, 1, 3, 0, 0⟩ : S84)]) (wrap64 (x7 + 1))) else (none))) else (none))) else (none))) else (none)))) else (if x1.length < 1759218604441 then ((some (x1 ++ [(⟨5, (⟨7, 0, 0, false, false⟩ : S59), 0, 0, 3, 0, 0⟩ : S84)] : List (S84))).bind fun y419 => (if y419.length < 1759218604441 then ((some (y419 ++ [(⟨133, (⟨8, 0, 0, false, false⟩ : S59), 0, 0, 0, 3, 0⟩ : S84)] : List (S84))).bind fun y422 => (if y422.length < 1759218604441 then ((some (y422 ++ [(⟨149, (⟨9, 0, 0, false, false⟩ : S59), 0, 0, 0, 0, 0⟩ : S84)] : List (S84))).bind fun y425 => (if y425.length < 1759218604441 then ((some (y425 ++ [(⟨24, (⟨10, 0, 0, false, false⟩ : S59), 2, 4, 0, 3, 0⟩ : S84)] : List (S84))).bind fun y428 => (if y428.length < 1759218604441 then (some (y428 ++ [(⟨24, (⟨11, 0, 0, false, false⟩ : S59), 2, 4, 0, 3, 1⟩ : S84)])) else (none))) else (none))) else (none))) else (none))) else (none))
end
def stockaderef02_Rows.f (k : Nat)  : Option ((List (S84))) := stockaderef02_Rows.l0 k ([] : List (S84)) 0
theorem stockaderef02_Rows.mono_l : ∀ k, (∀ y0 y1, LeO (stockaderef02_Rows.l0 k y0 y1) (stockaderef02_Rows.l0 (k + 1) y0 y1)) ∧ (∀ y0 y1, LeO (stockaderef02_Rows.l1 k y0 y1) (stockaderef02_Rows.l1 (k + 1) y0 y1)) ∧ (∀ y0 y1, LeO (stockaderef02_Rows.l2 k y0 y1) (stockaderef02_Rows.l2 (k + 1) y0 y1)) ∧ (∀ y0 y1, LeO (stockaderef02_Rows.l3 k y0 y1) (stockaderef02_Rows.l3 (k + 1) y0 y1))
 | 0 => ⟨fun _ _ r h => by simp [stockaderef02_Rows.l0] at h, fun _ _ r h => by simp [stockaderef02_Rows.l1] at h, fun _ _ r h => by simp [stockaderef02_Rows.l2] at h, fun _ _ r h => by simp [stockaderef02_Rows.l3] at h⟩
 | k + 1 => by
  obtain ⟨ih0, ih1, ih2, ih3⟩ := stockaderef02_Rows.mono_l k
  refine ⟨?_, ?_, ?_, ?_⟩
  ·intro y0 y1
   unfold stockaderef02_Rows.l0
   repeat' first
   | (with_reducible exact ih0 _ _)
   | (with_reducible exact ih1 _ _)
   | (with_reducible exact ih2 _ _)
   | (with_reducible exact ih3 _ _)
   | (with_reducible exact LeO.refl _)
   | (with_reducible exact LeO.none _)
   | (with_reducible refine LeO.ite ?_ ?_)
   | (with_reducible refine LeO.bind ?_ (fun _ => ?_))
   | refine LeO.ite ?_ ?_
   | refine LeO.bind ?_ (fun _ => ?_)
  ·intro y0 y1
   unfold stockaderef02_Rows.l1
   repeat' first
   | (with_reducible exact ih0 _ _)
   | (with_reducible exact ih1 _ _)
   | (with_reducible exact ih2 _ _)
   | (with_reducible exact ih3 _ _)
   | (with_reducible exact LeO.refl _)
   | (with_reducible exact LeO.none _)
   | (with_reducible refine LeO.ite ?_ ?_)
   | (with_reducible refine LeO.bind ?_ (fun _ => ?_))
   | refine LeO.ite ?_ ?_
   | refine LeO.bind ?_ (fun _ => ?_)
  ·intro y0 y1
   unfold stockaderef02_Rows.l2
   repeat' first
   | (with_reducible exact ih0 _ _)
   | (with_reducible exact ih1 _ _)
   | (with_reducible exact ih2 _ _)
   | (with_reducible exact ih3 _ _)
   | (with_reducible exact LeO.refl _)
   | (with_reducible exact LeO.none _)
   | (with_reducible refine LeO.ite ?_ ?_)
   | (with_reducible refine LeO.bind ?_ (fun _ => ?_))
   | refine LeO.ite ?_ ?_
   | refine LeO.bind ?_ (fun _ => ?_)
  ·intro y0 y1
   unfold stockaderef02_Rows.l3
   repeat' first
   | (with_reducible exact ih0 _ _)
   | (with_reducible exact ih1 _ _)
   | (with_reducible exact ih2 _ _)
   | (with_reducible exact ih3 _ _)
   | (with_reducible exact LeO.refl _)
   | (with_reducible exact LeO.none _)
   | (with_reducible refine LeO.ite ?_ ?_)
   | (with_reducible refine LeO.bind ?_ (fun _ => ?_))
   | refine LeO.ite ?_ ?_
   | refine LeO.bind ?_ (fun _ => ?_)
theorem stockaderef02_Rows.mono : ∀ k, LeO (stockaderef02_Rows.f k ) (stockaderef02_Rows.f (k + 1) ) := by
 intro  k
 obtain ⟨ih0, ih1, ih2, ih3⟩ := stockaderef02_Rows.mono_l k
 unfold stockaderef02_Rows.f
 repeat' first
   | (with_reducible exact ih0 _ _)
   | (with_reducible exact ih1 _ _)
   | (with_reducible exact ih2 _ _)
   | (with_reducible exact ih3 _ _)
   | (with_reducible exact LeO.refl _)
   | (with_reducible exact LeO.none _)
   | (with_reducible refine LeO.ite ?_ ?_)
   | (with_reducible refine LeO.bind ?_ (fun _ => ?_))
   | refine LeO.ite ?_ ?_
   | refine LeO.bind ?_ (fun _ => ?_)
set_option maxHeartbeats 8000000 in
set_option maxRecDepth 100000 in
theorem stockaderef02_Rows.calls (k : Nat)  (r : List (S84)) (w : World) (h : stockaderef02_Rows.f k  = some r) :
  Calls Tryd.prog 42 #[] w fun e w' => ∃ v0_ : Value, e = .returned (v0_) ∧ Kd.R k84 84 w' w.heap.size (fun _ => True) v0_ r ∧ Below w.heap.size w w' := by
 have hu59 := Tryd.underlying59
 have hu84 := Tryd.underlying84
 have HB := Aside0.mk (Below.refl w.heap.size w)
 have H : (stockaderef02_Rows.l0 k ([] : List (S84)) 0) = some r := h
 clear h
 have H' := Aside0.mk H
 clear H
 go_enter Tryd.func42, Tryd.ntmps42
 go_wp2
 go_loopg [1, 2] k (fun kq v1 v2 w' => ∃ (x1_1 : List (S84)) (x2_1 : Int), v2 = .int .i64 x2_1 ∧ Aside0 (stockaderef02_Rows.l0 kq x1_1 x2_1 = some r) ∧ Aside0 (kq ≤ k) ∧ Aside0 (Kd.R k84 84 w' w.heap.size (fun _ => True) v1 x1_1) ∧ Aside0 (Below w.heap.size w w'))
 case atStart => exact ⟨(([] : List (S84))), (0), eq_now, H', ⟨Nat.le_refl _⟩, ⟨by first | exact Kd.R_nil _ _ _ _ _ | exact Kd.N_nil _ _ _ _ _ | exact Kd.V_nil _ _ _ _ _ | exact Kd.Q_nil _ _ _ _ _ | exact Kd.S_nil _ _ _ _ _⟩, ⟨b_now⟩⟩
 case round =>
  clear H'
  obtain ⟨x1_1, x2_1, rfl, HA, HK1, HO_1, HB⟩ := hrel
  cases gk with
  | zero => exact absurd HA.out (by simp [stockaderef02_Rows.l0])
  | succ k1 =>
   have H := HA.out
   clear HA
   simp only [stockaderef02_Rows.l0] at H
   by_cases c1 : x2_1 ≤ 12
   ·rw [if_pos c1] at H
    have c1b0 : decide (x2_1 ≤ 12) = true := decide_eq_true c1
    clear c1
    by_cases c2 : x2_1 = 8
    ·rw [if_pos c2] at H
     obtain ⟨c2b0, c2b1⟩ := eqT c2
     clear c2
     by_cases c3 : x1_1.length < 1759218604441
     ·rw [if_pos c3] at H
      have LMc3 := Aside0.mk c3
      clear c3
      obtain ⟨y350, hy350⟩ : ∃ y_ : List (S84), y_ = (x1_1 ++ [(⟨(wrap64 ((wrap64 (16 * x2_1)) + 4)) % 256, (⟨1, x2_1, 0, false, false⟩ : S59), 2, 0, 0, 0, 0⟩ : S84)]) := ⟨_, rfl⟩
      replace H : (if y350.length < 1759218604441 then (stockaderef02_Rows.l0 k1 (y350 ++ [(⟨(wrap64 ((wrap64 (16 * x2_1)) + 7)) % 256, (⟨1, x2_1, 0, true, false⟩ : S59), 2, 0, 0, 0, 0⟩ : S84)]) (wrap64 (x2_1 + 1))) else (none)) = some r := by first | (rw [hy350]; with_reducible exact H) | (have H2_ := (Option.bind_some _ _).symm.trans H; rw [hy350]; with_reducible exact H2_) | (have H2_ := (Option.bind_some _ _).symm.trans H; with_reducible exact H2_) | with_reducible exact H | (rw [hy350]; exact H) | exact H
      have Ny350 := Aside0.mk hy350
      clear hy350
      by_cases c4 : y350.length < 1759218604441
      ·rw [if_pos c4] at H
       have LMc4 := Aside0.mk c4
       clear c4
       obtain ⟨y353, hy353⟩ : ∃ y_ : List (S84), y_ = (y350 ++ [(⟨(wrap64 ((wrap64 (16 * x2_1)) + 7)) % 256, (⟨1, x2_1, 0, true, false⟩ : S59), 2, 0, 0, 0, 0⟩ : S84)]) := ⟨_, rfl⟩
       replace H : (stockaderef02_Rows.l0 k1 y353 (wrap64 (x2_1 + 1))) = some r := by first | (rw [hy353]; with_reducible exact H) | (have H2_ := (Option.bind_some _ _).symm.trans H; rw [hy353]; with_reducible exact H2_) | (have H2_ := (Option.bind_some _ _).symm.trans H; with_reducible exact H2_) | with_reducible exact H | (rw [hy353]; exact H) | exact H
       have Ny353 := Aside0.mk hy353
       clear hy353
       have H' := Aside0.mk H
       clear H
       go_wp2_with (first | ((with_reducible refine gate_builtin (b := .append) (xs := #[.tmp 14, .tmp 23]) rfl ?_); at_builtin; refine Kd.R_append k84 (w0 := w) w.heap.size rfl (.tmp 14) (.tmp 23) 98 84 (.agg #[(.int .u8 0), (.int .i64 0), (.int .i64 0), (.int .i64 0), (.bool false), (.bool false), (.int .i64 0), (.int .i64 0), (.int .i64 0), (.int .i64 0), (.int .i64 0)]) 80 rfl Tryd.underlying98 info84 rfl (by decide) (by omega) u1 x1_1 (⟨(wrap64 ((wrap64 (16 * x2_1)) + 4)) % 256, (⟨1, x2_1, 0, false, false⟩ : S59), 2, 0, 0, 0, 0⟩ : S84) [.int .u8 ((wrap64 ((wrap64 (16 * x2_1)) + 4)) % 256), .int .i64 1, .int .i64 x2_1, .int .i64 0, .bool false, .bool false, .int .i64 2, .int .i64 0, .int .i64 0, .int .i64 0, .int .i64 0] (fun _ => True) (fun _ => False) rfl rfl ?aP (fun _ hk => hk.elim) ?aF ?aO ?aB ?aS ?aL ?_; (case aP => exact k84_mkM _ _ _ (⟨(wrap64 ((wrap64 (16 * x2_1)) + 4)) % 256, (⟨1, x2_1, 0, false, false⟩ : S59), 2, 0, 0, 0, 0⟩ : S84)); (case aB => exact b_now); (case aF => exact (fun _ _ => trivial)); (case aO => exact (by (with_reducible repeat (first | apply Kd.R_alloc | apply Kd.R_drewN | apply Kd.R_drew)); exact HO_1.out)); (case aS => exact (below_size b_now)); (case aL => have := LMc3.out; omega); intro v351 w5 ho hb hg hat; rw [← Ny350.out] at ho; have n0_ := Aside0.mk (hb); have n1_ := Aside0.mk (ho); clear HB; clear HO_1; have HB := n0_; have HO352 := n1_; clear n0_ n1_; clear ho hb hg hat) | ((with_reducible refine gate_builtin (b := .append) (xs := #[.tmp 25, .tmp 34]) rfl ?_); at_builtin; refine Kd.R_append k84 (w0 := w) w.heap.size rfl (.tmp 25) (.tmp 34) 98 84 (.agg #[(.int .u8 0), (.int .i64 0), (.int .i64 0), (.int .i64 0), (.bool false), (.bool false), (.int .i64 0), (.int .i64 0), (.int .i64 0), (.int .i64 0), (.int .i64 0)]) 80 rfl Tryd.underlying98 info84 rfl (by decide) (by omega) v351 y350 (⟨(wrap64 ((wrap64 (16 * x2_1)) + 7)) % 256, (⟨1, x2_1, 0, true, false⟩ : S59), 2, 0, 0, 0, 0⟩ : S84) [.int .u8 ((wrap64 ((wrap64 (16 * x2_1)) + 7)) % 256), .int .i64 1, .int .i64 x2_1, .int .i64 0, .bool true, .bool false, .int .i64 2, .int .i64 0, .int .i64 0, .int .i64 0, .int .i64 0] (fun _ => True) (fun _ => False) rfl rfl ?aP (fun _ hk => hk.elim) ?aF ?aO ?aB ?aS ?aL ?_; (case aP => exact k84_mkM _ _ _ (⟨(wrap64 ((wrap64 (16 * x2_1)) + 7)) % 256, (⟨1, x2_1, 0, true, false⟩ : S59), 2, 0, 0, 0, 0⟩ : S84)); (case aB => exact b_now); (case aF => exact (fun _ _ => trivial)); (case aO => exact (by (with_reducible repeat (first | apply Kd.R_alloc | apply Kd.R_drewN | apply Kd.R_drew)); exact HO352.out)); (case aS => exact (below_size b_now)); (case aL => have := LMc4.out; omega); intro v354 w6 ho hb hg hat; rw [← Ny353.out] at ho; have n0_ := Aside0.mk (hb); have n1_ := Aside0.mk (ho); clear HB; clear HO352; have HB := n0_; have HO355 := n1_; clear n0_ n1_; clear ho hb hg hat))
       go_roundg k1
       case measure => have := HK1.out; omega
       case rel => exact ⟨(y353), (wrap64 (x2_1 + 1)), eq_now, H', ⟨by have := HK1.out; omega⟩, ⟨by (with_reducible repeat (first | apply Kd.R_alloc | apply Kd.R_drewN | apply Kd.R_drew)); exact HO355.out⟩, ⟨b_now⟩⟩
      ·rw [if_neg c4] at H
       exact absurd H (by simp)
     ·rw [if_neg c3] at H
      exact absurd H (by simp)
    ·rw [if_neg c2] at H
     obtain ⟨c2b0, c2b1⟩ := eqF c2
     by_cases c7 : x1_1.length < 1759218604441
     ·rw [if_pos c7] at H
      have LMc7 := Aside0.mk c7
      clear c7
      obtain ⟨y356, hy356⟩ : ∃ y_ : List (S84), y_ = (x1_1 ++ [(⟨(wrap64 ((wrap64 (16 * x2_1)) + 4)) % 256, (⟨1, x2_1, 0, false, false⟩ : S59), 2, 0, 0, 3, 0⟩ : S84)]) := ⟨_, rfl⟩
      replace H : (if y356.length < 1759218604441 then ((some (y356 ++ [(⟨(wrap64 ((wrap64 (16 * x2_1)) + 7)) % 256, (⟨1, x2_1, 0, true, false⟩ : S59), 2, 0, 0, 3, 0⟩ : S84)] : List (S84))).bind fun y359 => (if y359.length < 1759218604441 then ((some (y359 ++ [(⟨(wrap64 ((wrap64 (16 * x2_1)) + 12)) % 256, (⟨1, x2_1, 0, false, true⟩ : S59), 2, 1, 0, 0, 0⟩ : S84)] : List (S84))).bind fun y362 => (if y362.length < 1759218604441 then (stockaderef02_Rows.l0 k1 (y362 ++ [(⟨(wrap64 ((wrap64 (16 * x2_1)) + 15)) % 256, (⟨1, x2_1, 0, true, true⟩ : S59), 2, 1, 0, 0, 0⟩ : S84)]) (wrap64 (x2_1 + 1))) else (none))) else (none))) else (none)) = some r := by first | (rw [hy356]; with_reducible exact H) | (have H2_ := (Option.bind_some _ _).symm.trans H; rw [hy356]; with_reducible exact H2_) | (have H2_ := (Option.bind_some _ _).symm.trans H; with_reducible exact H2_) | with_reducible exact H | (rw [hy356]; exact H) | exact H
      have Ny356 := Aside0.mk hy356
      clear hy356
      by_cases c8 : y356.length < 1759218604441
      ·rw [if_pos c8] at H
       have LMc8 := Aside0.mk c8
       clear c8
       obtain ⟨y359, hy359⟩ : ∃ y_ : List (S84), y_ = (y356 ++ [(⟨(wrap64 ((wrap64 (16 * x2_1)) + 7)) % 256, (⟨1, x2_1, 0, true, false⟩ : S59), 2, 0, 0, 3, 0⟩ : S84)]) := ⟨_, rfl⟩
       replace H : (if y359.length < 1759218604441 then ((some (y359 ++ [(⟨(wrap64 ((wrap64 (16 * x2_1)) + 12)) % 256, (⟨1, x2_1, 0, false, true⟩ : S59), 2, 1, 0, 0, 0⟩ : S84)] : List (S84))).bind fun y362 => (if y362.length < 1759218604441 then (stockaderef02_Rows.l0 k1 (y362 ++ [(⟨(wrap64 ((wrap64 (16 * x2_1)) + 15)) % 256, (⟨1, x2_1, 0, true, true⟩ : S59), 2, 1, 0, 0, 0⟩ : S84)]) (wrap64 (x2_1 + 1))) else (none))) else (none)) = some r := by first | (rw [hy359]; with_reducible exact H) | (have H2_ := (Option.bind_some _ _).symm.trans H; rw [hy359]; with_reducible exact H2_) | (have H2_ := (Option.bind_some _ _).symm.trans H; with_reducible exact H2_) | with_reducible exact H | (rw [hy359]; exact H) | exact H
       have Ny359 := Aside0.mk hy359
       clear hy359
       by_cases c9 : y359.length < 1759218604441
       ·rw [if_pos c9] at H
        have LMc9 := Aside0.mk c9
        clear c9
        obtain ⟨y362, hy362⟩ : ∃ y_ : List (S84), y_ = (y359 ++ [(⟨(wrap64 ((wrap64 (16 * x2_1)) + 12)) % 256, (⟨1, x2_1, 0, false, true⟩ : S59), 2, 1, 0, 0, 0⟩ : S84)]) := ⟨_, rfl⟩
        replace H : (if y362.length < 1759218604441 then (stockaderef02_Rows.l0 k1 (y362 ++ [(⟨(wrap64 ((wrap64 (16 * x2_1)) + 15)) % 256, (⟨1, x2_1, 0, true, true⟩ : S59), 2, 1, 0, 0, 0⟩ : S84)]) (wrap64 (x2_1 + 1))) else (none)) = some r := by first | (rw [hy362]; with_reducible exact H) | (have H2_ := (Option.bind_some _ _).symm.trans H; rw [hy362]; with_reducible exact H2_) | (have H2_ := (Option.bind_some _ _).symm.trans H; with_reducible exact H2_) | with_reducible exact H | (rw [hy362]; exact H) | exact H
        have Ny362 := Aside0.mk hy362
        clear hy362
        by_cases c10 : y362.length < 1759218604441
        ·rw [if_pos c10] at H
         have LMc10 := Aside0.mk c10
         clear c10
         obtain ⟨y365, hy365⟩ : ∃ y_ : List (S84), y_ = (y362 ++ [(⟨(wrap64 ((wrap64 (16 * x2_1)) + 15)) % 256, (⟨1, x2_1, 0, true, true⟩ : S59), 2, 1, 0, 0, 0⟩ : S84)]) := ⟨_, rfl⟩
         replace H : (stockaderef02_Rows.l0 k1 y365 (wrap64 (x2_1 + 1))) = some r := by first | (rw [hy365]; with_reducible exact H) | (have H2_ := (Option.bind_some _ _).symm.trans H; rw [hy365]; with_reducible exact H2_) | (have H2_ := (Option.bind_some _ _).symm.trans H; with_reducible exact H2_) | with_reducible exact H | (rw [hy365]; exact H) | exact H
         have Ny365 := Aside0.mk hy365
         clear hy365
         have H' := Aside0.mk H
         clear H
         go_wp2_with (first | ((with_reducible refine gate_builtin (b := .append) (xs := #[.tmp 14, .tmp 23]) rfl ?_); at_builtin; refine Kd.R_append k84 (w0 := w) w.heap.size rfl (.tmp 14) (.tmp 23) 98 84 (.agg #[(.int .u8 0), (.int .i64 0), (.int .i64 0), (.int .i64 0), (.bool false), (.bool false), (.int .i64 0), (.int .i64 0), (.int .i64 0), (.int .i64 0), (.int .i64 0)]) 80 rfl Tryd.underlying98 info84 rfl (by decide) (by omega) u1 x1_1 (⟨(wrap64 ((wrap64 (16 * x2_1)) + 4)) % 256, (⟨1, x2_1, 0, false, false⟩ : S59), 2, 0, 0, 3, 0⟩ : S84) [.int .u8 ((wrap64 ((wrap64 (16 * x2_1)) + 4)) % 256), .int .i64 1, .int .i64 x2_1, .int .i64 0, .bool false, .bool false, .int .i64 2, .int .i64 0, .int .i64 0, .int .i64 3, .int .i64 0] (fun _ => True) (fun _ => False) rfl rfl ?aP (fun _ hk => hk.elim) ?aF ?aO ?aB ?aS ?aL ?_; (case aP => exact k84_mkM _ _ _ (⟨(wrap64 ((wrap64 (16 * x2_1)) + 4)) % 256, (⟨1, x2_1, 0, false, false⟩ : S59), 2, 0, 0, 3, 0⟩ : S84)); (case aB => exact b_now); (case aF => exact (fun _ _ => trivial)); (case aO => exact (by (with_reducible repeat (first | apply Kd.R_alloc | apply Kd.R_drewN | apply Kd.R_drew)); exact HO_1.out)); (case aS => exact (below_size b_now)); (case aL => have := LMc7.out; omega); intro v357 w11 ho hb hg hat; rw [← Ny356.out] at ho; have n0_ := Aside0.mk (hb); have n1_ := Aside0.mk (ho); clear HB; clear HO_1; have HB := n0_; have HO358 := n1_; clear n0_ n1_; clear ho hb hg hat) | ((with_reducible refine gate_builtin (b := .append) (xs := #[.tmp 25, .tmp 34]) rfl ?_); at_builtin; refine Kd.R_append k84 (w0 := w) w.heap.size rfl (.tmp 25) (.tmp 34) 98 84 (.agg #[(.int .u8 0), (.int .i64 0), (.int .i64 0), (.int .i64 0), (.bool false), (.bool false), (.int .i64 0), (.int .i64 0), (.int .i64 0), (.int .i64 0), (.int .i64 0)]) 80 rfl Tryd.underlying98 info84 rfl (by decide) (by omega) v357 y356 (⟨(wrap64 ((wrap64 (16 * x2_1)) + 7)) % 256, (⟨1, x2_1, 0, true, false⟩ : S59), 2, 0, 0, 3, 0⟩ : S84) [.int .u8 ((wrap64 ((wrap64 (16 * x2_1)) + 7)) % 256), .int .i64 1, .int .i64 x2_1, .int .i64 0, .bool true, .bool false, .int .i64 2, .int .i64 0, .int .i64 0, .int .i64 3, .int .i64 0] (fun _ => True) (fun _ => False) rfl rfl ?aP (fun _ hk => hk.elim) ?aF ?aO ?aB ?aS ?aL ?_; (case aP => exact k84_mkM _ _ _ (⟨(wrap64 ((wrap64 (16 * x2_1)) + 7)) % 256, (⟨1, x2_1, 0, true, false⟩ : S59), 2, 0, 0, 3, 0⟩ : S84)); (case aB => exact b_now); (case aF => exact (fun _ _ => trivial)); (case aO => exact (by (with_reducible repeat (first | apply Kd.R_alloc | apply Kd.R_drewN | apply Kd.R_drew)); exact HO358.out)); (case aS => exact (below_size b_now)); (case aL => have := LMc8.out; omega); intro v360 w12 ho hb hg hat; rw [← Ny359.out] at ho; have n0_ := Aside0.mk (hb); have n1_ := Aside0.mk (ho); clear HB; clear HO358; have HB := n0_; have HO361 := n1_; clear n0_ n1_; clear ho hb hg hat) | ((with_reducible refine gate_builtin (b := .append) (xs := #[.tmp 38, .tmp 46]) rfl ?_); at_builtin; refine Kd.R_append k84 (w0 := w) w.heap.size rfl (.tmp 38) (.tmp 46) 98 84 (.agg #[(.int .u8 0), (.int .i64 0), (.int .i64 0), (.int .i64 0), (.bool false), (.bool false), (.int .i64 0), (.int .i64 0), (.int .i64 0), (.int .i64 0), (.int .i64 0)]) 80 rfl Tryd.underlying98 info84 rfl (by decide) (by omega) v360 y359 (⟨(wrap64 ((wrap64 (16 * x2_1)) + 12)) % 256, (⟨1, x2_1, 0, false, true⟩ : S59), 2, 1, 0, 0, 0⟩ : S84) [.int .u8 ((wrap64 ((wrap64 (16 * x2_1)) + 12)) % 256), .int .i64 1, .int .i64 x2_1, .int .i64 0, .bool false, .bool true, .int .i64 2, .int .i64 1, .int .i64 0, .int .i64 0, .int .i64 0] (fun _ => True) (fun _ => False) rfl rfl ?aP (fun _ hk => hk.elim) ?aF ?aO ?aB ?aS ?aL ?_; (case aP => exact k84_mkM _ _ _ (⟨(wrap64 ((wrap64 (16 * x2_1)) + 12)) % 256, (⟨1, x2_1, 0, false, true⟩ : S59), 2, 1, 0, 0, 0⟩ : S84)); (case aB => exact b_now); (case aF => exact (fun _ _ => trivial)); (case aO => exact (by (with_reducible repeat (first | apply Kd.R_alloc | apply Kd.R_drewN | apply Kd.R_drew)); exact HO361.out)); (case aS => exact (below_size b_now)); (case aL => have := LMc9.out; omega); intro v363 w13 ho hb hg hat; rw [← Ny362.out] at ho; have n0_ := Aside0.mk (hb); have n1_ := Aside0.mk (ho); clear HB; clear HO361; have HB := n0_; have HO364 := n1_; clear n0_ n1_; clear ho hb hg hat) | ((with_reducible refine gate_builtin (b := .append) (xs := #[.tmp 48, .tmp 56]) rfl ?_); at_builtin; refine Kd.R_append k84 (w0 := w) w.heap.size rfl (.tmp 48) (.tmp 56) 98 84 (.agg #[(.int .u8 0), (.int .i64 0), (.int .i64 0), (.int .i64 0), (.bool false), (.bool false), (.int .i64 0), (.int .i64 0), (.int .i64 0), (.int .i64 0), (.int .i64 0)]) 80 rfl Tryd.underlying98 info84 rfl (by decide) (by omega) v363 y362 (⟨(wrap64 ((wrap64 (16 * x2_1)) + 15)) % 256, (⟨1, x2_1, 0, true, true⟩ : S59), 2, 1, 0, 0, 0⟩ : S84) [.int .u8 ((wrap64 ((wrap64 (16 * x2_1)) + 15)) % 256), .int .i64 1, .int .i64 x2_1, .int .i64 0, .bool true, .bool true, .int .i64 2, .int .i64 1, .int .i64 0, .int .i64 0, .int .i64 0] (fun _ => True) (fun _ => False) rfl rfl ?aP (fun _ hk => hk.elim) ?aF ?aO ?aB ?aS ?aL ?_; (case aP => exact k84_mkM _ _ _ (⟨(wrap64 ((wrap64 (16 * x2_1)) + 15)) % 256, (⟨1, x2_1, 0, true, true⟩ : S59), 2, 1, 0, 0, 0⟩ : S84)); (case aB => exact b_now); (case aF => exact (fun _ _ => trivial)); (case aO => exact (by (with_reducible repeat (first | apply Kd.R_alloc | apply Kd.R_drewN | apply Kd.R_drew)); exact HO364.out)); (case aS => exact (below_size b_now)); (case aL => have := LMc10.out; omega); intro v366 w14 ho hb hg hat; rw [← Ny365.out] at ho; have n0_ := Aside0.mk (hb); have n1_ := Aside0.mk (ho); clear HB; clear HO364; have HB := n0_; have HO367 := n1_; clear n0_ n1_; clear ho hb hg hat))
         go_roundg k1
         case measure => have := HK1.out; omega
         case rel => exact ⟨(y365), (wrap64 (x2_1 + 1)), eq_now, H', ⟨by have := HK1.out; omega⟩, ⟨by (with_reducible repeat (first | apply Kd.R_alloc | apply Kd.R_drewN | apply Kd.R_drew)); exact HO367.out⟩, ⟨b_now⟩⟩
        ·rw [if_neg c10] at H
         exact absurd H (by simp)
       ·rw [if_neg c9] at H
        exact absurd H (by simp)
      ·rw [if_neg c8] at H
       exact absurd H (by simp)
     ·rw [if_neg c7] at H
      exact absurd H (by simp)
   ·rw [if_neg c1] at H
    have c1b0 : decide (x2_1 ≤ 12) = false := decide_eq_false c1
    clear c1
    have H' := Aside0.mk H
    clear H
    go_wp2
    go_loopg [1, 4] k1 (fun kq v1 v4 w' => ∃ (x1_2 : List (S84)) (x4_2 : Int), v4 = .int .i64 x4_2 ∧ Aside0 (stockaderef02_Rows.l1 kq x1_2 x4_2 = some r) ∧ Aside0 (kq ≤ k1) ∧ Aside0 (Kd.R k84 84 w' w.heap.size (fun _ => True) v1 x1_2) ∧ Aside0 (Below w.heap.size w w'))
    case atStart => exact ⟨(x1_1), (2), eq_now, H', ⟨Nat.le_refl _⟩, ⟨by (with_reducible repeat (first | apply Kd.R_alloc | apply Kd.R_drewN | apply Kd.R_drew)); exact HO_1.out⟩, ⟨b_now⟩⟩
    case round =>
     clear H'
     clear c1b0
     obtain ⟨x1_2, x4_2, rfl, HA, HK2, HO_1, HB⟩ := hrel
     cases gk with
     | zero => exact absurd HA.out (by simp [stockaderef02_Rows.l1])
     | succ k2 =>
      have H := HA.out
      clear HA
      simp only [stockaderef02_Rows.l1] at H
      by_cases c15 : x4_2 ≤ 8
      ·rw [if_pos c15] at H
       have c15b0 : decide (x4_2 ≤ 8) = true := decide_eq_true c15
       clear c15
       by_cases c16 : x1_2.length < 1759218604441
       ·rw [if_pos c16] at H
        have LMc16 := Aside0.mk c16
        clear c16
        obtain ⟨y368, hy368⟩ : ∃ y_ : List (S84), y_ = (x1_2 ++ [(⟨215, (⟨2, 0, x4_2, false, false⟩ : S59), 2, 0, 0, 4, wrap64 (8 * x4_2)⟩ : S84)]) := ⟨_, rfl⟩
        replace H : (stockaderef02_Rows.l1 k2 y368 (wrap64 (2 * x4_2))) = some r := by first | (rw [hy368]; with_reducible exact H) | (have H2_ := (Option.bind_some _ _).symm.trans H; rw [hy368]; with_reducible exact H2_) | (have H2_ := (Option.bind_some _ _).symm.trans H; with_reducible exact H2_) | with_reducible exact H | (rw [hy368]; exact H) | exact H
        have Ny368 := Aside0.mk hy368
        clear hy368
        have H' := Aside0.mk H
        clear H
        go_wp2_with (first | ((with_reducible refine gate_builtin (b := .append) (xs := #[.tmp 62, .tmp 68]) rfl ?_); at_builtin; refine Kd.R_append k84 (w0 := w) w.heap.size rfl (.tmp 62) (.tmp 68) 98 84 (.agg #[(.int .u8 0), (.int .i64 0), (.int .i64 0), (.int .i64 0), (.bool false), (.bool false), (.int .i64 0), (.int .i64 0), (.int .i64 0), (.int .i64 0), (.int .i64 0)]) 80 rfl Tryd.underlying98 info84 rfl (by decide) (by omega) u1 x1_2 (⟨215, (⟨2, 0, x4_2, false, false⟩ : S59), 2, 0, 0, 4, wrap64 (8 * x4_2)⟩ : S84) [.int .u8 215, .int .i64 2, .int .i64 0, .int .i64 x4_2, .bool false, .bool false, .int .i64 2, .int .i64 0, .int .i64 0, .int .i64 4, .int .i64 (wrap64 (8 * x4_2))] (fun _ => True) (fun _ => False) rfl rfl ?aP (fun _ hk => hk.elim) ?aF ?aO ?aB ?aS ?aL ?_; (case aP => exact k84_mkM _ _ _ (⟨215, (⟨2, 0, x4_2, false, false⟩ : S59), 2, 0, 0, 4, wrap64 (8 * x4_2)⟩ : S84)); (case aB => exact b_now); (case aF => exact (fun _ _ => trivial)); (case aO => exact (by (with_reducible repeat (first | apply Kd.R_alloc | apply Kd.R_drewN | apply Kd.R_drew)); exact HO_1.out)); (case aS => exact (below_size b_now)); (case aL => have := LMc16.out; omega); intro v369 w17 ho hb hg hat; rw [← Ny368.out] at ho; have n0_ := Aside0.mk (hb); have n1_ := Aside0.mk (ho); clear HB; clear HO_1; have HB := n0_; have HO370 := n1_; clear n0_ n1_; clear ho hb hg hat))
        go_roundg k2
        case measure => have := HK1.out; have := HK2.out; omega
        case rel => exact ⟨(y368), (wrap64 (2 * x4_2)), eq_now, H', ⟨by have := HK1.out; have := HK2.out; omega⟩, ⟨by (with_reducible repeat (first | apply Kd.R_alloc | apply Kd.R_drewN | apply Kd.R_drew)); exact HO370.out⟩, ⟨b_now⟩⟩
       ·rw [if_neg c16] at H
        exact absurd H (by simp)
      ·rw [if_neg c15] at H
       have c15b0 : decide (x4_2 ≤ 8) = false := decide_eq_false c15
       clear c15
       have H' := Aside0.mk H
       clear H
       go_wp2
       go_loopg [1, 5] k2 (fun kq v1 v5 w' => ∃ (x1_3 : List (S84)) (x5_3 : Int), v5 = .int .i64 x5_3 ∧ Aside0 (stockaderef02_Rows.l2 kq x1_3 x5_3 = some r) ∧ Aside0 (kq ≤ k2) ∧ Aside0 (Kd.R k84 84 w' w.heap.size (fun _ => True) v1 x1_3) ∧ Aside0 (Below w.heap.size w w'))
       case atStart => exact ⟨(x1_2), (0), eq_now, H', ⟨Nat.le_refl _⟩, ⟨by (with_reducible repeat (first | apply Kd.R_alloc | apply Kd.R_drewN | apply Kd.R_drew)); exact HO_1.out⟩, ⟨b_now⟩⟩
       case round =>
        clear H'
        clear c15b0
        obtain ⟨x1_3, x5_3, rfl, HA, HK3, HO_1, HB⟩ := hrel
        cases gk with
        | zero => exact absurd HA.out (by simp [stockaderef02_Rows.l2])
        | succ k3 =>
         have H := HA.out
         clear HA
         simp only [stockaderef02_Rows.l2] at H
         by_cases c18 : x5_3 < 4
         ·rw [if_pos c18] at H
          have c18b0 : decide (x5_3 < 4) = true := decide_eq_true c18
          clear c18
          by_cases c19 : x5_3 = 0
          ·rw [if_pos c19] at H
           obtain ⟨c19b0, c19b1⟩ := eqT c19
           clear c19
           by_cases c20 : x1_3.length < 1759218604441
           ·rw [if_pos c20] at H
            have LMc20 := Aside0.mk c20
            clear c20
            obtain ⟨y371, hy371⟩ : ∃ y_ : List (S84), y_ = (x1_3 ++ [(⟨(wrap64 (97 + (wrap64 (8 * x5_3)))) % 256, (⟨3, 0, 4, false, false⟩ : S59), 2, 1, 3, 0, 0⟩ : S84)]) := ⟨_, rfl⟩
            replace H : (if y371.length < 1759218604441 then ((some (y371 ++ [(⟨(wrap64 (98 + (wrap64 (8 * x5_3)))) % 256, (⟨5, 0, 4, false, false⟩ : S59), 1, 0, 3, 3, 0⟩ : S84)] : List (S84))).bind fun y374 => (if y374.length < 1759218604441 then (stockaderef02_Rows.l2 k3 (y374 ++ [(⟨(wrap64 (99 + (wrap64 (8 * x5_3)))) % 256, (⟨4, 0, 4, false, false⟩ : S59), 1, 1, 3, 0, 0⟩ : S84)]) (wrap64 (x5_3 + 1))) else (none))) else (none)) = some r := by first | (rw [hy371]; with_reducible exact H) | (have H2_ := (Option.bind_some _ _).symm.trans H; rw [hy371]; with_reducible exact H2_) | (have H2_ := (Option.bind_some _ _).symm.trans H; with_reducible exact H2_) | with_reducible exact H | (rw [hy371]; exact H) | exact H
            have Ny371 := Aside0.mk hy371
            clear hy371
            by_cases c21 : y371.length < 1759218604441
            ·rw [if_pos c21] at H
             have LMc21 := Aside0.mk c21
             clear c21
             obtain ⟨y374, hy374⟩ : ∃ y_ : List (S84), y_ = (y371 ++ [(⟨(wrap64 (98 + (wrap64 (8 * x5_3)))) % 256, (⟨5, 0, 4, false, false⟩ : S59), 1, 0, 3, 3, 0⟩ : S84)]) := ⟨_, rfl⟩
             replace H : (if y374.length < 1759218604441 then (stockaderef02_Rows.l2 k3 (y374 ++ [(⟨(wrap64 (99 + (wrap64 (8 * x5_3)))) % 256, (⟨4, 0, 4, false, false⟩ : S59), 1, 1, 3, 0, 0⟩ : S84)]) (wrap64 (x5_3 + 1))) else (none)) = some r := by first | (rw [hy374]; with_reducible exact H) | (have H2_ := (Option.bind_some _ _).symm.trans H; rw [hy374]; with_reducible exact H2_) | (have H2_ := (Option.bind_some _ _).symm.trans H; with_reducible exact H2_) | with_reducible exact H | (rw [hy374]; exact H) | exact H
             have Ny374 := Aside0.mk hy374
             clear hy374
             by_cases c22 : y374.length < 1759218604441
             ·rw [if_pos c22] at H
              have LMc22 := Aside0.mk c22
              clear c22
              obtain ⟨y377, hy377⟩ : ∃ y_ : List (S84), y_ = (y374 ++ [(⟨(wrap64 (99 + (wrap64 (8 * x5_3)))) % 256, (⟨4, 0, 4, false, false⟩ : S59), 1, 1, 3, 0, 0⟩ : S84)]) := ⟨_, rfl⟩
              replace H : (stockaderef02_Rows.l2 k3 y377 (wrap64 (x5_3 + 1))) = some r := by first | (rw [hy377]; with_reducible exact H) | (have H2_ := (Option.bind_some _ _).symm.trans H; rw [hy377]; with_reducible exact H2_) | (have H2_ := (Option.bind_some _ _).symm.trans H; with_reducible exact H2_) | with_reducible exact H | (rw [hy377]; exact H) | exact H
              have Ny377 := Aside0.mk hy377
              clear hy377
              have H' := Aside0.mk H
              clear H
              go_wp2_with (first | ((with_reducible refine gate_builtin (b := .append) (xs := #[.tmp 81, .tmp 89]) rfl ?_); at_builtin; refine Kd.R_append k84 (w0 := w) w.heap.size rfl (.tmp 81) (.tmp 89) 98 84 (.agg #[(.int .u8 0), (.int .i64 0), (.int .i64 0), (.int .i64 0), (.bool false), (.bool false), (.int .i64 0), (.int .i64 0), (.int .i64 0), (.int .i64 0), (.int .i64 0)]) 80 rfl Tryd.underlying98 info84 rfl (by decide) (by omega) u1 x1_3 (⟨(wrap64 (97 + (wrap64 (8 * x5_3)))) % 256, (⟨3, 0, 4, false, false⟩ : S59), 2, 1, 3, 0, 0⟩ : S84) [.int .u8 ((wrap64 (97 + (wrap64 (8 * x5_3)))) % 256), .int .i64 3, .int .i64 0, .int .i64 4, .bool false, .bool false, .int .i64 2, .int .i64 1, .int .i64 3, .int .i64 0, .int .i64 0] (fun _ => True) (fun _ => False) rfl rfl ?aP (fun _ hk => hk.elim) ?aF ?aO ?aB ?aS ?aL ?_; (case aP => exact k84_mkM _ _ _ (⟨(wrap64 (97 + (wrap64 (8 * x5_3)))) % 256, (⟨3, 0, 4, false, false⟩ : S59), 2, 1, 3, 0, 0⟩ : S84)); (case aB => exact b_now); (case aF => exact (fun _ _ => trivial)); (case aO => exact (by (with_reducible repeat (first | apply Kd.R_alloc | apply Kd.R_drewN | apply Kd.R_drew)); exact HO_1.out)); (case aS => exact (below_size b_now)); (case aL => have := LMc20.out; omega); intro v372 w23 ho hb hg hat; rw [← Ny371.out] at ho; have n0_ := Aside0.mk (hb); have n1_ := Aside0.mk (ho); clear HB; clear HO_1; have HB := n0_; have HO373 := n1_; clear n0_ n1_; clear ho hb hg hat) | ((with_reducible refine gate_builtin (b := .append) (xs := #[.tmp 91, .tmp 99]) rfl ?_); at_builtin; refine Kd.R_append k84 (w0 := w) w.heap.size rfl (.tmp 91) (.tmp 99) 98 84 (.agg #[(.int .u8 0), (.int .i64 0), (.int .i64 0), (.int .i64 0), (.bool false), (.bool false), (.int .i64 0), (.int .i64 0), (.int .i64 0), (.int .i64 0), (.int .i64 0)]) 80 rfl Tryd.underlying98 info84 rfl (by decide) (by omega) v372 y371 (⟨(wrap64 (98 + (wrap64 (8 * x5_3)))) % 256, (⟨5, 0, 4, false, false⟩ : S59), 1, 0, 3, 3, 0⟩ : S84) [.int .u8 ((wrap64 (98 + (wrap64 (8 * x5_3)))) % 256), .int .i64 5, .int .i64 0, .int .i64 4, .bool false, .bool false, .int .i64 1, .int .i64 0, .int .i64 3, .int .i64 3, .int .i64 0] (fun _ => True) (fun _ => False) rfl rfl ?aP (fun _ hk => hk.elim) ?aF ?aO ?aB ?aS ?aL ?_; (case aP => exact k84_mkM _ _ _ (⟨(wrap64 (98 + (wrap64 (8 * x5_3)))) % 256, (⟨5, 0, 4, false, false⟩ : S59), 1, 0, 3, 3, 0⟩ : S84)); (case aB => exact b_now); (case aF => exact (fun _ _ => trivial)); (case aO => exact (by (with_reducible repeat (first | apply Kd.R_alloc | apply Kd.R_drewN | apply Kd.R_drew)); exact HO373.out)); (case aS => exact (below_size b_now)); (case aL => have := LMc21.out; omega); intro v375 w24 ho hb hg hat; rw [← Ny374.out] at ho; have n0_ := Aside0.mk (hb); have n1_ := Aside0.mk (ho); clear HB; clear HO373; have HB := n0_; have HO376 := n1_; clear n0_ n1_; clear ho hb hg hat) | ((with_reducible refine gate_builtin (b := .append) (xs := #[.tmp 101, .tmp 109]) rfl ?_); at_builtin; refine Kd.R_append k84 (w0 := w) w.heap.size rfl (.tmp 101) (.tmp 109) 98 84 (.agg #[(.int .u8 0), (.int .i64 0), (.int .i64 0), (.int .i64 0), (.bool false), (.bool false), (.int .i64 0), (.int .i64 0), (.int .i64 0), (.int .i64 0), (.int .i64 0)]) 80 rfl Tryd.underlying98 info84 rfl (by decide) (by omega) v375 y374 (⟨(wrap64 (99 + (wrap64 (8 * x5_3)))) % 256, (⟨4, 0, 4, false, false⟩ : S59), 1, 1, 3, 0, 0⟩ : S84) [.int .u8 ((wrap64 (99 + (wrap64 (8 * x5_3)))) % 256), .int .i64 4, .int .i64 0, .int .i64 4, .bool false, .bool false, .int .i64 1, .int .i64 1, .int .i64 3, .int .i64 0, .int .i64 0] (fun _ => True) (fun _ => False) rfl rfl ?aP (fun _ hk => hk.elim) ?aF ?aO ?aB ?aS ?aL ?_; (case aP => exact k84_mkM _ _ _ (⟨(wrap64 (99 + (wrap64 (8 * x5_3)))) % 256, (⟨4, 0, 4, false, false⟩ : S59), 1, 1, 3, 0, 0⟩ : S84)); (case aB => exact b_now); (case aF => exact (fun _ _ => trivial)); (case aO => exact (by (with_reducible repeat (first | apply Kd.R_alloc | apply Kd.R_drewN | apply Kd.R_drew)); exact HO376.out)); (case aS => exact (below_size b_now)); (case aL => have := LMc22.out; omega); intro v378 w25 ho hb hg hat; rw [← Ny377.out] at ho; have n0_ := Aside0.mk (hb); have n1_ := Aside0.mk (ho); clear HB; clear HO376; have HB := n0_; have HO379 := n1_; clear n0_ n1_; clear ho hb hg hat))
              go_roundg k3
              case measure => have := HK1.out; have := HK2.out; have := HK3.out; omega
              case rel => exact ⟨(y377), (wrap64 (x5_3 + 1)), eq_now, H', ⟨by have := HK1.out; have := HK2.out; have := HK3.out; omega⟩, ⟨by (with_reducible repeat (first | apply Kd.R_alloc | apply Kd.R_drewN | apply Kd.R_drew)); exact HO379.out⟩, ⟨b_now⟩⟩
             ·rw [if_neg c22] at H
              exact absurd H (by simp)
            ·rw [if_neg c21] at H
             exact absurd H (by simp)
           ·rw [if_neg c20] at H
            exact absurd H (by simp)
          ·rw [if_neg c19] at H
           obtain ⟨c19b0, c19b1⟩ := eqF c19
           by_cases c26 : x5_3 = 1
           ·rw [if_pos c26] at H
            obtain ⟨c26b0, c26b1⟩ := eqT c26
            clear c26
            by_cases c27 : x1_3.length < 1759218604441
            ·rw [if_pos c27] at H
             have LMc27 := Aside0.mk c27
             clear c27
             obtain ⟨y380, hy380⟩ : ∃ y_ : List (S84), y_ = (x1_3 ++ [(⟨(wrap64 (97 + (wrap64 (8 * x5_3)))) % 256, (⟨3, 0, 2, false, false⟩ : S59), 2, 1, 3, 0, 0⟩ : S84)]) := ⟨_, rfl⟩
             replace H : (if y380.length < 1759218604441 then ((some (y380 ++ [(⟨(wrap64 (98 + (wrap64 (8 * x5_3)))) % 256, (⟨5, 0, 2, false, false⟩ : S59), 1, 0, 3, 3, 0⟩ : S84)] : List (S84))).bind fun y383 => (if y383.length < 1759218604441 then (stockaderef02_Rows.l2 k3 (y383 ++ [(⟨(wrap64 (99 + (wrap64 (8 * x5_3)))) % 256, (⟨4, 0, 2, false, false⟩ : S59), 1, 1, 3, 0, 0⟩ : S84)]) (wrap64 (x5_3 + 1))) else (none))) else (none)) = some r := by first | (rw [hy380]; with_reducible exact H) | (have H2_ := (Option.bind_some _ _).symm.trans H; rw [hy380]; with_reducible exact H2_) | (have H2_ := (Option.bind_some _ _).symm.trans H; with_reducible exact H2_) | with_reducible exact H | (rw [hy380]; exact H) | exact H
             have Ny380 := Aside0.mk hy380
             clear hy380
             by_cases c28 : y380.length < 1759218604441
             ·rw [if_pos c28] at H
              have LMc28 := Aside0.mk c28
              clear c28
              obtain ⟨y383, hy383⟩ : ∃ y_ : List (S84), y_ = (y380 ++ [(⟨(wrap64 (98 + (wrap64 (8 * x5_3)))) % 256, (⟨5, 0, 2, false, false⟩ : S59), 1, 0, 3, 3, 0⟩ : S84)]) := ⟨_, rfl⟩
              replace H : (if y383.length < 1759218604441 then (stockaderef02_Rows.l2 k3 (y383 ++ [(⟨(wrap64 (99 + (wrap64 (8 * x5_3)))) % 256, (⟨4, 0, 2, false, false⟩ : S59), 1, 1, 3, 0, 0⟩ : S84)]) (wrap64 (x5_3 + 1))) else (none)) = some r := by first | (rw [hy383]; with_reducible exact H) | (have H2_ := (Option.bind_some _ _).symm.trans H; rw [hy383]; with_reducible exact H2_) | (have H2_ := (Option.bind_some _ _).symm.trans H; with_reducible exact H2_) | with_reducible exact H | (rw [hy383]; exact H) | exact H
              have Ny383 := Aside0.mk hy383
              clear hy383
              by_cases c29 : y383.length < 1759218604441
              ·rw [if_pos c29] at H
               have LMc29 := Aside0.mk c29
               clear c29
               obtain ⟨y386, hy386⟩ : ∃ y_ : List (S84), y_ = (y383 ++ [(⟨(wrap64 (99 + (wrap64 (8 * x5_3)))) % 256, (⟨4, 0, 2, false, false⟩ : S59), 1, 1, 3, 0, 0⟩ : S84)]) := ⟨_, rfl⟩
               replace H : (stockaderef02_Rows.l2 k3 y386 (wrap64 (x5_3 + 1))) = some r := by first | (rw [hy386]; with_reducible exact H) | (have H2_ := (Option.bind_some _ _).symm.trans H; rw [hy386]; with_reducible exact H2_) | (have H2_ := (Option.bind_some _ _).symm.trans H; with_reducible exact H2_) | with_reducible exact H | (rw [hy386]; exact H) | exact H
               have Ny386 := Aside0.mk hy386
               clear hy386
               have H' := Aside0.mk H
               clear H
               go_wp2_with (first | ((with_reducible refine gate_builtin (b := .append) (xs := #[.tmp 81, .tmp 89]) rfl ?_); at_builtin; refine Kd.R_append k84 (w0 := w) w.heap.size rfl (.tmp 81) (.tmp 89) 98 84 (.agg #[(.int .u8 0), (.int .i64 0), (.int .i64 0), (.int .i64 0), (.bool false), (.bool false), (.int .i64 0), (.int .i64 0), (.int .i64 0), (.int .i64 0), (.int .i64 0)]) 80 rfl Tryd.underlying98 info84 rfl (by decide) (by omega) u1 x1_3 (⟨(wrap64 (97 + (wrap64 (8 * x5_3)))) % 256, (⟨3, 0, 2, false, false⟩ : S59), 2, 1, 3, 0, 0⟩ : S84) [.int .u8 ((wrap64 (97 + (wrap64 (8 * x5_3)))) % 256), .int .i64 3, .int .i64 0, .int .i64 2, .bool false, .bool false, .int .i64 2, .int .i64 1, .int .i64 3, .int .i64 0, .int .i64 0] (fun _ => True) (fun _ => False) rfl rfl ?aP (fun _ hk => hk.elim) ?aF ?aO ?aB ?aS ?aL ?_; (case aP => exact k84_mkM _ _ _ (⟨(wrap64 (97 + (wrap64 (8 * x5_3)))) % 256, (⟨3, 0, 2, false, false⟩ : S59), 2, 1, 3, 0, 0⟩ : S84)); (case aB => exact b_now); (case aF => exact (fun _ _ => trivial)); (case aO => exact (by (with_reducible repeat (first | apply Kd.R_alloc | apply Kd.R_drewN | apply Kd.R_drew)); exact HO_1.out)); (case aS => exact (below_size b_now)); (case aL => have := LMc27.out; omega); intro v381 w30 ho hb hg hat; rw [← Ny380.out] at ho; have n0_ := Aside0.mk (hb); have n1_ := Aside0.mk (ho); clear HB; clear HO_1; have HB := n0_; have HO382 := n1_; clear n0_ n1_; clear ho hb hg hat) | ((with_reducible refine gate_builtin (b := .append) (xs := #[.tmp 91, .tmp 99]) rfl ?_); at_builtin; refine Kd.R_append k84 (w0 := w) w.heap.size rfl (.tmp 91) (.tmp 99) 98 84 (.agg #[(.int .u8 0), (.int .i64 0), (.int .i64 0), (.int .i64 0), (.bool false), (.bool false), (.int .i64 0), (.int .i64 0), (.int .i64 0), (.int .i64 0), (.int .i64 0)]) 80 rfl Tryd.underlying98 info84 rfl (by decide) (by omega) v381 y380 (⟨(wrap64 (98 + (wrap64 (8 * x5_3)))) % 256, (⟨5, 0, 2, false, false⟩ : S59), 1, 0, 3, 3, 0⟩ : S84) [.int .u8 ((wrap64 (98 + (wrap64 (8 * x5_3)))) % 256), .int .i64 5, .int .i64 0, .int .i64 2, .bool false, .bool false, .int .i64 1, .int .i64 0, .int .i64 3, .int .i64 3, .int .i64 0] (fun _ => True) (fun _ => False) rfl rfl ?aP (fun _ hk => hk.elim) ?aF ?aO ?aB ?aS ?aL ?_; (case aP => exact k84_mkM _ _ _ (⟨(wrap64 (98 + (wrap64 (8 * x5_3)))) % 256, (⟨5, 0, 2, false, false⟩ : S59), 1, 0, 3, 3, 0⟩ : S84)); (case aB => exact b_now); (case aF => exact (fun _ _ => trivial)); (case aO => exact (by (with_reducible repeat (first | apply Kd.R_alloc | apply Kd.R_drewN | apply Kd.R_drew)); exact HO382.out)); (case aS => exact (below_size b_now)); (case aL => have := LMc28.out; omega); intro v384 w31 ho hb hg hat; rw [← Ny383.out] at ho; have n0_ := Aside0.mk (hb); have n1_ := Aside0.mk (ho); clear HB; clear HO382; have HB := n0_; have HO385 := n1_; clear n0_ n1_; clear ho hb hg hat) | ((with_reducible refine gate_builtin (b := .append) (xs := #[.tmp 101, .tmp 109]) rfl ?_); at_builtin; refine Kd.R_append k84 (w0 := w) w.heap.size rfl (.tmp 101) (.tmp 109) 98 84 (.agg #[(.int .u8 0), (.int .i64 0), (.int .i64 0), (.int .i64 0), (.bool false), (.bool false), (.int .i64 0), (.int .i64 0), (.int .i64 0), (.int .i64 0), (.int .i64 0)]) 80 rfl Tryd.underlying98 info84 rfl (by decide) (by omega) v384 y383 (⟨(wrap64 (99 + (wrap64 (8 * x5_3)))) % 256, (⟨4, 0, 2, false, false⟩ : S59), 1, 1, 3, 0, 0⟩ : S84) [.int .u8 ((wrap64 (99 + (wrap64 (8 * x5_3)))) % 256), .int .i64 4, .int .i64 0, .int .i64 2, .bool false, .bool false, .int .i64 1, .int .i64 1, .int .i64 3, .int .i64 0, .int .i64 0] (fun _ => True) (fun _ => False) rfl rfl ?aP (fun _ hk => hk.elim) ?aF ?aO ?aB ?aS ?aL ?_; (case aP => exact k84_mkM _ _ _ (⟨(wrap64 (99 + (wrap64 (8 * x5_3)))) % 256, (⟨4, 0, 2, false, false⟩ : S59), 1, 1, 3, 0, 0⟩ : S84)); (case aB => exact b_now); (case aF => exact (fun _ _ => trivial)); (case aO => exact (by (with_reducible repeat (first | apply Kd.R_alloc | apply Kd.R_drewN | apply Kd.R_drew)); exact HO385.out)); (case aS => exact (below_size b_now)); (case aL => have := LMc29.out; omega); intro v387 w32 ho hb hg hat; rw [← Ny386.out] at ho; have n0_ := Aside0.mk (hb); have n1_ := Aside0.mk (ho); clear HB; clear HO385; have HB := n0_; have HO388 := n1_; clear n0_ n1_; clear ho hb hg hat))
               go_roundg k3
               case measure => have := HK1.out; have := HK2.out; have := HK3.out; omega
               case rel => exact ⟨(y386), (wrap64 (x5_3 + 1)), eq_now, H', ⟨by have := HK1.out; have := HK2.out; have := HK3.out; omega⟩, ⟨by (with_reducible repeat (first | apply Kd.R_alloc | apply Kd.R_drewN | apply Kd.R_drew)); exact HO388.out⟩, ⟨b_now⟩⟩
              ·rw [if_neg c29] at H
               exact absurd H (by simp)
             ·rw [if_neg c28] at H
              exact absurd H (by simp)
            ·rw [if_neg c27] at H
             exact absurd H (by simp)
           ·rw [if_neg c26] at H
            obtain ⟨c26b0, c26b1⟩ := eqF c26
            by_cases c33 : x5_3 = 2
            ·rw [if_pos c33] at H
             obtain ⟨c33b0, c33b1⟩ := eqT c33
             clear c33
             by_cases c34 : x1_3.length < 1759218604441
             ·rw [if_pos c34] at H
              have LMc34 := Aside0.mk c34
              clear c34
              obtain ⟨y389, hy389⟩ : ∃ y_ : List (S84), y_ = (x1_3 ++ [(⟨(wrap64 (97 + (wrap64 (8 * x5_3)))) % 256, (⟨3, 0, 1, false, false⟩ : S59), 2, 1, 3, 0, 0⟩ : S84)]) := ⟨_, rfl⟩
              replace H : (if y389.length < 1759218604441 then ((some (y389 ++ [(⟨(wrap64 (98 + (wrap64 (8 * x5_3)))) % 256, (⟨5, 0, 1, false, false⟩ : S59), 1, 0, 3, 3, 0⟩ : S84)] : List (S84))).bind fun y392 => (if y392.length < 1759218604441 then (stockaderef02_Rows.l2 k3 (y392 ++ [(⟨(wrap64 (99 + (wrap64 (8 * x5_3)))) % 256, (⟨4, 0, 1, false, false⟩ : S59), 1, 1, 3, 0, 0⟩ : S84)]) (wrap64 (x5_3 + 1))) else (none))) else (none)) = some r := by first | (rw [hy389]; with_reducible exact H) | (have H2_ := (Option.bind_some _ _).symm.trans H; rw [hy389]; with_reducible exact H2_) | (have H2_ := (Option.bind_some _ _).symm.trans H; with_reducible exact H2_) | with_reducible exact H | (rw [hy389]; exact H) | exact H
              have Ny389 := Aside0.mk hy389
              clear hy389
              by_cases c35 : y389.length < 1759218604441
              ·rw [if_pos c35] at H
               have LMc35 := Aside0.mk c35
               clear c35
               obtain ⟨y392, hy392⟩ : ∃ y_ : List (S84), y_ = (y389 ++ [(⟨(wrap64 (98 + (wrap64 (8 * x5_3)))) % 256, (⟨5, 0, 1, false, false⟩ : S59), 1, 0, 3, 3, 0⟩ : S84)]) := ⟨_, rfl⟩
               replace H : (if y392.length < 1759218604441 then (stockaderef02_Rows.l2 k3 (y392 ++ [(⟨(wrap64 (99 + (wrap64 (8 * x5_3)))) % 256, (⟨4, 0, 1, false, false⟩ : S59), 1, 1, 3, 0, 0⟩ : S84)]) (wrap64 (x5_3 + 1))) else (none)) = some r := by first | (rw [hy392]; with_reducible exact H) | (have H2_ := (Option.bind_some _ _).symm.trans H; rw [hy392]; with_reducible exact H2_) | (have H2_ := (Option.bind_some _ _).symm.trans H; with_reducible exact H2_) | with_reducible exact H | (rw [hy392]; exact H) | exact H
               have Ny392 := Aside0.mk hy392
               clear hy392
               by_cases c36 : y392.length < 1759218604441
               ·rw [if_pos c36] at H
                have LMc36 := Aside0.mk c36
                clear c36
                obtain ⟨y395, hy395⟩ : ∃ y_ : List (S84), y_ = (y392 ++ [(⟨(wrap64 (99 + (wrap64 (8 * x5_3)))) % 256, (⟨4, 0, 1, false, false⟩ : S59), 1, 1, 3, 0, 0⟩ : S84)]) := ⟨_, rfl⟩
                replace H : (stockaderef02_Rows.l2 k3 y395 (wrap64 (x5_3 + 1))) = some r := by first | (rw [hy395]; with_reducible exact H) | (have H2_ := (Option.bind_some _ _).symm.trans H; rw [hy395]; with_reducible exact H2_) | (have H2_ := (Option.bind_some _ _).symm.trans H; with_reducible exact H2_) | with_reducible exact H | (rw [hy395]; exact H) | exact H
                have Ny395 := Aside0.mk hy395
                clear hy395
                have H' := Aside0.mk H
                clear H
                go_wp2_with (first | ((with_reducible refine gate_builtin (b := .append) (xs := #[.tmp 81, .tmp 89]) rfl ?_); at_builtin; refine Kd.R_append k84 (w0 := w) w.heap.size rfl (.tmp 81) (.tmp 89) 98 84 (.agg #[(.int .u8 0), (.int .i64 0), (.int .i64 0), (.int .i64 0), (.bool false), (.bool false), (.int .i64 0), (.int .i64 0), (.int .i64 0), (.int .i64 0), (.int .i64 0)]) 80 rfl Tryd.underlying98 info84 rfl (by decide) (by omega) u1 x1_3 (⟨(wrap64 (97 + (wrap64 (8 * x5_3)))) % 256, (⟨3, 0, 1, false, false⟩ : S59), 2, 1, 3, 0, 0⟩ : S84) [.int .u8 ((wrap64 (97 + (wrap64 (8 * x5_3)))) % 256), .int .i64 3, .int .i64 0, .int .i64 1, .bool false, .bool false, .int .i64 2, .int .i64 1, .int .i64 3, .int .i64 0, .int .i64 0] (fun _ => True) (fun _ => False) rfl rfl ?aP (fun _ hk => hk.elim) ?aF ?aO ?aB ?aS ?aL ?_; (case aP => exact k84_mkM _ _ _ (⟨(wrap64 (97 + (wrap64 (8 * x5_3)))) % 256, (⟨3, 0, 1, false, false⟩ : S59), 2, 1, 3, 0, 0⟩ : S84)); (case aB => exact b_now); (case aF => exact (fun _ _ => trivial)); (case aO => exact (by (with_reducible repeat (first | apply Kd.R_alloc | apply Kd.R_drewN | apply Kd.R_drew)); exact HO_1.out)); (case aS => exact (below_size b_now)); (case aL => have := LMc34.out; omega); intro v390 w37 ho hb hg hat; rw [← Ny389.out] at ho; have n0_ := Aside0.mk (hb); have n1_ := Aside0.mk (ho); clear HB; clear HO_1; have HB := n0_; have HO391 := n1_; clear n0_ n1_; clear ho hb hg hat) | ((with_reducible refine gate_builtin (b := .append) (xs := #[.tmp 91, .tmp 99]) rfl ?_); at_builtin; refine Kd.R_append k84 (w0 := w) w.heap.size rfl (.tmp 91) (.tmp 99) 98 84 (.agg #[(.int .u8 0), (.int .i64 0), (.int .i64 0), (.int .i64 0), (.bool false), (.bool false), (.int .i64 0), (.int .i64 0), (.int .i64 0), (.int .i64 0), (.int .i64 0)]) 80 rfl Tryd.underlying98 info84 rfl (by decide) (by omega) v390 y389 (⟨(wrap64 (98 + (wrap64 (8 * x5_3)))) % 256, (⟨5, 0, 1, false, false⟩ : S59), 1, 0, 3, 3, 0⟩ : S84) [.int .u8 ((wrap64 (98 + (wrap64 (8 * x5_3)))) % 256), .int .i64 5, .int .i64 0, .int .i64 1, .bool false, .bool false, .int .i64 1, .int .i64 0, .int .i64 3, .int .i64 3, .int .i64 0] (fun _ => True) (fun _ => False) rfl rfl ?aP (fun _ hk => hk.elim) ?aF ?aO ?aB ?aS ?aL ?_; (case aP => exact k84_mkM _ _ _ (⟨(wrap64 (98 + (wrap64 (8 * x5_3)))) % 256, (⟨5, 0, 1, false, false⟩ : S59), 1, 0, 3, 3, 0⟩ : S84)); (case aB => exact b_now); (case aF => exact (fun _ _ => trivial)); (case aO => exact (by (with_reducible repeat (first | apply Kd.R_alloc | apply Kd.R_drewN | apply Kd.R_drew)); exact HO391.out)); (case aS => exact (below_size b_now)); (case aL => have := LMc35.out; omega); intro v393 w38 ho hb hg hat; rw [← Ny392.out] at ho; have n0_ := Aside0.mk (hb); have n1_ := Aside0.mk (ho); clear HB; clear HO391; have HB := n0_; have HO394 := n1_; clear n0_ n1_; clear ho hb hg hat) | ((with_reducible refine gate_builtin (b := .append) (xs := #[.tmp 101, .tmp 109]) rfl ?_); at_builtin; refine Kd.R_append k84 (w0 := w) w.heap.size rfl (.tmp 101) (.tmp 109) 98 84 (.agg #[(.int .u8 0), (.int .i64 0), (.int .i64 0), (.int .i64 0), (.bool false), (.bool false), (.int .i64 0), (.int .i64 0), (.int .i64 0), (.int .i64 0), (.int .i64 0)]) 80 rfl Tryd.underlying98 info84 rfl (by decide) (by omega) v393 y392 (⟨(wrap64 (99 + (wrap64 (8 * x5_3)))) % 256, (⟨4, 0, 1, false, false⟩ : S59), 1, 1, 3, 0, 0⟩ : S84) [.int .u8 ((wrap64 (99 + (wrap64 (8 * x5_3)))) % 256), .int .i64 4, .int .i64 0, .int .i64 1, .bool false, .bool false, .int .i64 1, .int .i64 1, .int .i64 3, .int .i64 0, .int .i64 0] (fun _ => True) (fun _ => False) rfl rfl ?aP (fun _ hk => hk.elim) ?aF ?aO ?aB ?aS ?aL ?_; (case aP => exact k84_mkM _ _ _ (⟨(wrap64 (99 + (wrap64 (8 * x5_3)))) % 256, (⟨4, 0, 1, false, false⟩ : S59), 1, 1, 3, 0, 0⟩ : S84)); (case aB => exact b_now); (case aF => exact (fun _ _ => trivial)); (case aO => exact (by (with_reducible repeat (first | apply Kd.R_alloc | apply Kd.R_drewN | apply Kd.R_drew)); exact HO394.out)); (case aS => exact (below_size b_now)); (case aL => have := LMc36.out; omega); intro v396 w39 ho hb hg hat; rw [← Ny395.out] at ho; have n0_ := Aside0.mk (hb); have n1_ := Aside0.mk (ho); clear HB; clear HO394; have HB := n0_; have HO397 := n1_; clear n0_ n1_; clear ho hb hg hat))
                go_roundg k3
                case measure => have := HK1.out; have := HK2.out; have := HK3.out; omega
                case rel => exact ⟨(y395), (wrap64 (x5_3 + 1)), eq_now, H', ⟨by have := HK1.out; have := HK2.out; have := HK3.out; omega⟩, ⟨by (with_reducible repeat (first | apply Kd.R_alloc | apply Kd.R_drewN | apply Kd.R_drew)); exact HO397.out⟩, ⟨b_now⟩⟩
               ·rw [if_neg c36] at H
                exact absurd H (by simp)
              ·rw [if_neg c35] at H
               exact absurd H (by simp)
             ·rw [if_neg c34] at H
              exact absurd H (by simp)
            ·rw [if_neg c33] at H
             obtain ⟨c33b0, c33b1⟩ := eqF c33
             by_cases c40 : x1_3.length < 1759218604441
             ·rw [if_pos c40] at H
              have LMc40 := Aside0.mk c40
              clear c40
              obtain ⟨y398, hy398⟩ : ∃ y_ : List (S84), y_ = (x1_3 ++ [(⟨(wrap64 (97 + (wrap64 (8 * x5_3)))) % 256, (⟨3, 0, 8, false, false⟩ : S59), 2, 1, 3, 0, 0⟩ : S84)]) := ⟨_, rfl⟩
              replace H : (if y398.length < 1759218604441 then ((some (y398 ++ [(⟨(wrap64 (98 + (wrap64 (8 * x5_3)))) % 256, (⟨5, 0, 8, false, false⟩ : S59), 1, 0, 3, 3, 0⟩ : S84)] : List (S84))).bind fun y401 => (if y401.length < 1759218604441 then (stockaderef02_Rows.l2 k3 (y401 ++ [(⟨(wrap64 (99 + (wrap64 (8 * x5_3)))) % 256, (⟨4, 0, 8, false, false⟩ : S59), 1, 1, 3, 0, 0⟩ : S84)]) (wrap64 (x5_3 + 1))) else (none))) else (none)) = some r := by first | (rw [hy398]; with_reducible exact H) | (have H2_ := (Option.bind_some _ _).symm.trans H; rw [hy398]; with_reducible exact H2_) | (have H2_ := (Option.bind_some _ _).symm.trans H; with_reducible exact H2_) | with_reducible exact H | (rw [hy398]; exact H) | exact H
              have Ny398 := Aside0.mk hy398
              clear hy398
              by_cases c41 : y398.length < 1759218604441
              ·rw [if_pos c41] at H
               have LMc41 := Aside0.mk c41
               clear c41
               obtain ⟨y401, hy401⟩ : ∃ y_ : List (S84), y_ = (y398 ++ [(⟨(wrap64 (98 + (wrap64 (8 * x5_3)))) % 256, (⟨5, 0, 8, false, false⟩ : S59), 1, 0, 3, 3, 0⟩ : S84)]) := ⟨_, rfl⟩
               replace H : (if y401.length < 1759218604441 then (stockaderef02_Rows.l2 k3 (y401 ++ [(⟨(wrap64 (99 + (wrap64 (8 * x5_3)))) % 256, (⟨4, 0, 8, false, false⟩ : S59), 1, 1, 3, 0, 0⟩ : S84)]) (wrap64 (x5_3 + 1))) else (none)) = some r := by first | (rw [hy401]; with_reducible exact H) | (have H2_ := (Option.bind_some _ _).symm.trans H; rw [hy401]; with_reducible exact H2_) | (have H2_ := (Option.bind_some _ _).symm.trans H; with_reducible exact H2_) | with_reducible exact H | (rw [hy401]; exact H) | exact H
               have Ny401 := Aside0.mk hy401
               clear hy401
               by_cases c42 : y401.length < 1759218604441
               ·rw [if_pos c42] at H
                have LMc42 := Aside0.mk c42
                clear c42
                obtain ⟨y404, hy404⟩ : ∃ y_ : List (S84), y_ = (y401 ++ [(⟨(wrap64 (99 + (wrap64 (8 * x5_3)))) % 256, (⟨4, 0, 8, false, false⟩ : S59), 1, 1, 3, 0, 0⟩ : S84)]) := ⟨_, rfl⟩
                replace H : (stockaderef02_Rows.l2 k3 y404 (wrap64 (x5_3 + 1))) = some r := by first | (rw [hy404]; with_reducible exact H) | (have H2_ := (Option.bind_some _ _).symm.trans H; rw [hy404]; with_reducible exact H2_) | (have H2_ := (Option.bind_some _ _).symm.trans H; with_reducible exact H2_) | with_reducible exact H | (rw [hy404]; exact H) | exact H
                have Ny404 := Aside0.mk hy404
                clear hy404
                have H' := Aside0.mk H
                clear H
                go_wp2_with (first | ((with_reducible refine gate_builtin (b := .append) (xs := #[.tmp 81, .tmp 89]) rfl ?_); at_builtin; refine Kd.R_append k84 (w0 := w) w.heap.size rfl (.tmp 81) (.tmp 89) 98 84 (.agg #[(.int .u8 0), (.int .i64 0), (.int .i64 0), (.int .i64 0), (.bool false), (.bool false), (.int .i64 0), (.int .i64 0), (.int .i64 0), (.int .i64 0), (.int .i64 0)]) 80 rfl Tryd.underlying98 info84 rfl (by decide) (by omega) u1 x1_3 (⟨(wrap64 (97 + (wrap64 (8 * x5_3)))) % 256, (⟨3, 0, 8, false, false⟩ : S59), 2, 1, 3, 0, 0⟩ : S84) [.int .u8 ((wrap64 (97 + (wrap64 (8 * x5_3)))) % 256), .int .i64 3, .int .i64 0, .int .i64 8, .bool false, .bool false, .int .i64 2, .int .i64 1, .int .i64 3, .int .i64 0, .int .i64 0] (fun _ => True) (fun _ => False) rfl rfl ?aP (fun _ hk => hk.elim) ?aF ?aO ?aB ?aS ?aL ?_; (case aP => exact k84_mkM _ _ _ (⟨(wrap64 (97 + (wrap64 (8 * x5_3)))) % 256, (⟨3, 0, 8, false, false⟩ : S59), 2, 1, 3, 0, 0⟩ : S84)); (case aB => exact b_now); (case aF => exact (fun _ _ => trivial)); (case aO => exact (by (with_reducible repeat (first | apply Kd.R_alloc | apply Kd.R_drewN | apply Kd.R_drew)); exact HO_1.out)); (case aS => exact (below_size b_now)); (case aL => have := LMc40.out; omega); intro v399 w43 ho hb hg hat; rw [← Ny398.out] at ho; have n0_ := Aside0.mk (hb); have n1_ := Aside0.mk (ho); clear HB; clear HO_1; have HB := n0_; have HO400 := n1_; clear n0_ n1_; clear ho hb hg hat) | ((with_reducible refine gate_builtin (b := .append) (xs := #[.tmp 91, .tmp 99]) rfl ?_); at_builtin; refine Kd.R_append k84 (w0 := w) w.heap.size rfl (.tmp 91) (.tmp 99) 98 84 (.agg #[(.int .u8 0), (.int .i64 0), (.int .i64 0), (.int .i64 0), (.bool false), (.bool false), (.int .i64 0), (.int .i64 0), (.int .i64 0), (.int .i64 0), (.int .i64 0)]) 80 rfl Tryd.underlying98 info84 rfl (by decide) (by omega) v399 y398 (⟨(wrap64 (98 + (wrap64 (8 * x5_3)))) % 256, (⟨5, 0, 8, false, false⟩ : S59), 1, 0, 3, 3, 0⟩ : S84) [.int .u8 ((wrap64 (98 + (wrap64 (8 * x5_3)))) % 256), .int .i64 5, .int .i64 0, .int .i64 8, .bool false, .bool false, .int .i64 1, .int .i64 0, .int .i64 3, .int .i64 3, .int .i64 0] (fun _ => True) (fun _ => False) rfl rfl ?aP (fun _ hk => hk.elim) ?aF ?aO ?aB ?aS ?aL ?_; (case aP => exact k84_mkM _ _ _ (⟨(wrap64 (98 + (wrap64 (8 * x5_3)))) % 256, (⟨5, 0, 8, false, false⟩ : S59), 1, 0, 3, 3, 0⟩ : S84)); (case aB => exact b_now); (case aF => exact (fun _ _ => trivial)); (case aO => exact (by (with_reducible repeat (first | apply Kd.R_alloc | apply Kd.R_drewN | apply Kd.R_drew)); exact HO400.out)); (case aS => exact (below_size b_now)); (case aL => have := LMc41.out; omega); intro v402 w44 ho hb hg hat; rw [← Ny401.out] at ho; have n0_ := Aside0.mk (hb); have n1_ := Aside0.mk (ho); clear HB; clear HO400; have HB := n0_; have HO403 := n1_; clear n0_ n1_; clear ho hb hg hat) | ((with_reducible refine gate_builtin (b := .append) (xs := #[.tmp 101, .tmp 109]) rfl ?_); at_builtin; refine Kd.R_append k84 (w0 := w) w.heap.size rfl (.tmp 101) (.tmp 109) 98 84 (.agg #[(.int .u8 0), (.int .i64 0), (.int .i64 0), (.int .i64 0), (.bool false), (.bool false), (.int .i64 0), (.int .i64 0), (.int .i64 0), (.int .i64 0), (.int .i64 0)]) 80 rfl Tryd.underlying98 info84 rfl (by decide) (by omega) v402 y401 (⟨(wrap64 (99 + (wrap64 (8 * x5_3)))) % 256, (⟨4, 0, 8, false, false⟩ : S59), 1, 1, 3, 0, 0⟩ : S84) [.int .u8 ((wrap64 (99 + (wrap64 (8 * x5_3)))) % 256), .int .i64 4, .int .i64 0, .int .i64 8, .bool false, .bool false, .int .i64 1, .int .i64 1, .int .i64 3, .int .i64 0, .int .i64 0] (fun _ => True) (fun _ => False) rfl rfl ?aP (fun _ hk => hk.elim) ?aF ?aO ?aB ?aS ?aL ?_; (case aP => exact k84_mkM _ _ _ (⟨(wrap64 (99 + (wrap64 (8 * x5_3)))) % 256, (⟨4, 0, 8, false, false⟩ : S59), 1, 1, 3, 0, 0⟩ : S84)); (case aB => exact b_now); (case aF => exact (fun _ _ => trivial)); (case aO => exact (by (with_reducible repeat (first | apply Kd.R_alloc | apply Kd.R_drewN | apply Kd.R_drew)); exact HO403.out)); (case aS => exact (below_size b_now)); (case aL => have := LMc42.out; omega); intro v405 w45 ho hb hg hat; rw [← Ny404.out] at ho; have n0_ := Aside0.mk (hb); have n1_ := Aside0.mk (ho); clear HB; clear HO403; have HB := n0_; have HO406 := n1_; clear n0_ n1_; clear ho hb hg hat))
                go_roundg k3
                case measure => have := HK1.out; have := HK2.out; have := HK3.out; omega
                case rel => exact ⟨(y404), (wrap64 (x5_3 + 1)), eq_now, H', ⟨by have := HK1.out; have := HK2.out; have := HK3.out; omega⟩, ⟨by (with_reducible repeat (first | apply Kd.R_alloc | apply Kd.R_drewN | apply Kd.R_drew)); exact HO406.out⟩, ⟨b_now⟩⟩
               ·rw [if_neg c42] at H
                exact absurd H (by simp)
              ·rw [if_neg c41] at H
               exact absurd H (by simp)
             ·rw [if_neg c40] at H
              exact absurd H (by simp)
         ·rw [if_neg c18] at H
          have c18b0 : decide (x5_3 < 4) = false := decide_eq_false c18
          clear c18
          have H' := Aside0.mk H
          clear H
          go_wp2
          go_loopg [1, 7] k3 (fun kq v1 v7 w' => ∃ (x1_4 : List (S84)) (x7_4 : Int), v7 = .int .i64 x7_4 ∧ Aside0 (stockaderef02_Rows.l3 kq x1_4 x7_4 = some r) ∧ Aside0 (kq ≤ k3) ∧ Aside0 (Kd.R k84 84 w' w.heap.size (fun _ => True) v1 x1_4) ∧ Aside0 (Below w.heap.size w w'))
          case atStart => exact ⟨(x1_3), (1), eq_now, H', ⟨Nat.le_refl _⟩, ⟨by (with_reducible repeat (first | apply Kd.R_alloc | apply Kd.R_drewN | apply Kd.R_drew)); exact HO_1.out⟩, ⟨b_now⟩⟩
          case round =>
           clear H'
           clear c18b0
           obtain ⟨x1_4, x7_4, rfl, HA, HK4, HO_1, HB⟩ := hrel
           cases gk with
           | zero => exact absurd HA.out (by simp [stockaderef02_Rows.l3])
           | succ k4 =>
            have H := HA.out
            clear HA
            simp only [stockaderef02_Rows.l3] at H
            by_cases c46 : x7_4 ≤ 13
            ·rw [if_pos c46] at H
             have c46b0 : decide (x7_4 ≤ 13) = true := decide_eq_true c46
             clear c46
             by_cases c47 : x7_4 = 8
             ·rw [if_pos c47] at H
              obtain ⟨c47b0, c47b1⟩ := eqT c47
              clear c47
              have H' := Aside0.mk H
              clear H
              go_wp2
              go_roundg k4
              case measure => have := HK1.out; have := HK2.out; have := HK3.out; have := HK4.out; omega
              case rel => exact ⟨(x1_4), (wrap64 (x7_4 + 1)), eq_now, H', ⟨by have := HK1.out; have := HK2.out; have := HK3.out; have := HK4.out; omega⟩, ⟨by (with_reducible repeat (first | apply Kd.R_alloc | apply Kd.R_drewN | apply Kd.R_drew)); exact HO_1.out⟩, ⟨b_now⟩⟩
             ·rw [if_neg c47] at H
              obtain ⟨c47b0, c47b1⟩ := eqF c47
              by_cases c48 : x7_4 = 9
              ·rw [if_pos c48] at H
               obtain ⟨c48b0, c48b1⟩ := eqT c48
               clear c48
               have H' := Aside0.mk H
               clear H
               go_wp2
               go_roundg k4
               case measure => have := HK1.out; have := HK2.out; have := HK3.out; have := HK4.out; omega
               case rel => exact ⟨(x1_4), (wrap64 (x7_4 + 1)), eq_now, H', ⟨by have := HK1.out; have := HK2.out; have := HK3.out; have := HK4.out; omega⟩, ⟨by (with_reducible repeat (first | apply Kd.R_alloc | apply Kd.R_drewN | apply Kd.R_drew)); exact HO_1.out⟩, ⟨b_now⟩⟩
              ·rw [if_neg c48] at H
               obtain ⟨c48b0, c48b1⟩ := eqF c48
               by_cases c49 : x1_4.length < 1759218604441
               ·rw [if_pos c49] at H
                have LMc49 := Aside0.mk c49
                clear c49
                obtain ⟨y407, hy407⟩ : ∃ y_ : List (S84), y_ = (x1_4 ++ [(⟨(wrap64 ((wrap64 (16 * x7_4)) + 5)) % 256, (⟨6, x7_4, 0, true, false⟩ : S59), 1, 0, 3, 3, 0⟩ : S84)]) := ⟨_, rfl⟩
                replace H : (if y407.length < 1759218604441 then ((some (y407 ++ [(⟨(wrap64 ((wrap64 (16 * x7_4)) + 6)) % 256, (⟨6, x7_4, 0, false, false⟩ : S59), 1, 0, 3, 3, 0⟩ : S84)] : List (S84))).bind fun y410 => (if y410.length < 1759218604441 then ((some (y410 ++ [(⟨(wrap64 ((wrap64 (16 * x7_4)) + 13)) % 256, (⟨6, x7_4, 0, true, true⟩ : S59), 1, 1, 3, 0, 0⟩ : S84)] : List (S84))).bind fun y413 => (if y413.length < 1759218604441 then (stockaderef02_Rows.l3 k4 (y413 ++ [(⟨(wrap64 ((wrap64 (16 * x7_4)) + 14)) % 256, (⟨6, x7_4, 0, false, true⟩ : S59), 1, 1, 3, 0, 0⟩ : S84)]) (wrap64 (x7_4 + 1))) else (none))) else (none))) else (none)) = some r := by first | (rw [hy407]; with_reducible exact H) | (have H2_ := (Option.bind_some _ _).symm.trans H; rw [hy407]; with_reducible exact H2_) | (have H2_ := (Option.bind_some _ _).symm.trans H; with_reducible exact H2_) | with_reducible exact H | (rw [hy407]; exact H) | exact H
                have Ny407 := Aside0.mk hy407
                clear hy407
                by_cases c50 : y407.length < 1759218604441
                ·rw [if_pos c50] at H
                 have LMc50 := Aside0.mk c50
                 clear c50
                 obtain ⟨y410, hy410⟩ : ∃ y_ : List (S84), y_ = (y407 ++ [(⟨(wrap64 ((wrap64 (16 * x7_4)) + 6)) % 256, (⟨6, x7_4, 0, false, false⟩ : S59), 1, 0, 3, 3, 0⟩ : S84)]) := ⟨_, rfl⟩
                 replace H : (if y410.length < 1759218604441 then ((some (y410 ++ [(⟨(wrap64 ((wrap64 (16 * x7_4)) + 13)) % 256, (⟨6, x7_4, 0, true, true⟩ : S59), 1, 1, 3, 0, 0⟩ : S84)] : List (S84))).bind fun y413 => (if y413.length < 1759218604441 then (stockaderef02_Rows.l3 k4 (y413 ++ [(⟨(wrap64 ((wrap64 (16 * x7_4)) + 14)) % 256, (⟨6, x7_4, 0, false, true⟩ : S59), 1, 1, 3, 0, 0⟩ : S84)]) (wrap64 (x7_4 + 1))) else (none))) else (none)) = some r := by first | (rw [hy410]; with_reducible exact H) | (have H2_ := (Option.bind_some _ _).symm.trans H; rw [hy410]; with_reducible exact H2_) | (have H2_ := (Option.bind_some _ _).symm.trans H; with_reducible exact H2_) | with_reducible exact H | (rw [hy410]; exact H) | exact H
                 have Ny410 := Aside0.mk hy410
                 clear hy410
                 by_cases c51 : y410.length < 1759218604441
                 ·rw [if_pos c51] at H
                  have LMc51 := Aside0.mk c51
                  clear c51
                  obtain ⟨y413, hy413⟩ : ∃ y_ : List (S84), y_ = (y410 ++ [(⟨(wrap64 ((wrap64 (16 * x7_4)) + 13)) % 256, (⟨6, x7_4, 0, true, true⟩ : S59), 1, 1, 3, 0, 0⟩ : S84)]) := ⟨_, rfl⟩
                  replace H : (if y413.length < 1759218604441 then (stockaderef02_Rows.l3 k4 (y413 ++ [(⟨(wrap64 ((wrap64 (16 * x7_4)) + 14)) % 256, (⟨6, x7_4, 0, false, true⟩ : S59), 1, 1, 3, 0, 0⟩ : S84)]) (wrap64 (x7_4 + 1))) else (none)) = some r := by first | (rw [hy413]; with_reducible exact H) | (have H2_ := (Option.bind_some _ _).symm.trans H; rw [hy413]; with_reducible exact H2_) | (have H2_ := (Option.bind_some _ _).symm.trans H; with_reducible exact H2_) | with_reducible exact H | (rw [hy413]; exact H) | exact H
                  have Ny413 := Aside0.mk hy413
                  clear hy413
                  by_cases c52 : y413.length < 1759218604441
                  ·rw [if_pos c52] at H
                   have LMc52 := Aside0.mk c52
                   clear c52
                   obtain ⟨y416, hy416⟩ : ∃ y_ : List (S84), y_ = (y413 ++ [(⟨(wrap64 ((wrap64 (16 * x7_4)) + 14)) % 256, (⟨6, x7_4, 0, false, true⟩ : S59), 1, 1, 3, 0, 0⟩ : S84)]) := ⟨_, rfl⟩
                   replace H : (stockaderef02_Rows.l3 k4 y416 (wrap64 (x7_4 + 1))) = some r := by first | (rw [hy416]; with_reducible exact H) | (have H2_ := (Option.bind_some _ _).symm.trans H; rw [hy416]; with_reducible exact H2_) | (have H2_ := (Option.bind_some _ _).symm.trans H; with_reducible exact H2_) | with_reducible exact H | (rw [hy416]; exact H) | exact H
                   have Ny416 := Aside0.mk hy416
                   clear hy416
                   have H' := Aside0.mk H
                   clear H
                   go_wp2_with (first | ((with_reducible refine gate_builtin (b := .append) (xs := #[.tmp 121, .tmp 129]) rfl ?_); at_builtin; refine Kd.R_append k84 (w0 := w) w.heap.size rfl (.tmp 121) (.tmp 129) 98 84 (.agg #[(.int .u8 0), (.int .i64 0), (.int .i64 0), (.int .i64 0), (.bool false), (.bool false), (.int .i64 0), (.int .i64 0), (.int .i64 0), (.int .i64 0), (.int .i64 0)]) 80 rfl Tryd.underlying98 info84 rfl (by decide) (by omega) u1 x1_4 (⟨(wrap64 ((wrap64 (16 * x7_4)) + 5)) % 256, (⟨6, x7_4, 0, true, false⟩ : S59), 1, 0, 3, 3, 0⟩ : S84) [.int .u8 ((wrap64 ((wrap64 (16 * x7_4)) + 5)) % 256), .int .i64 6, .int .i64 x7_4, .int .i64 0, .bool true, .bool false, .int .i64 1, .int .i64 0, .int .i64 3, .int .i64 3, .int .i64 0] (fun _ => True) (fun _ => False) rfl rfl ?aP (fun _ hk => hk.elim) ?aF ?aO ?aB ?aS ?aL ?_; (case aP => exact k84_mkM _ _ _ (⟨(wrap64 ((wrap64 (16 * x7_4)) + 5)) % 256, (⟨6, x7_4, 0, true, false⟩ : S59), 1, 0, 3, 3, 0⟩ : S84)); (case aB => exact b_now); (case aF => exact (fun _ _ => trivial)); (case aO => exact (by (with_reducible repeat (first | apply Kd.R_alloc | apply Kd.R_drewN | apply Kd.R_drew)); exact HO_1.out)); (case aS => exact (below_size b_now)); (case aL => have := LMc49.out; omega); intro v408 w53 ho hb hg hat; rw [← Ny407.out] at ho; have n0_ := Aside0.mk (hb); have n1_ := Aside0.mk (ho); clear HB; clear HO_1; have HB := n0_; have HO409 := n1_; clear n0_ n1_; clear ho hb hg hat) | ((with_reducible refine gate_builtin (b := .append) (xs := #[.tmp 131, .tmp 139]) rfl ?_); at_builtin; refine Kd.R_append k84 (w0 := w) w.heap.size rfl (.tmp 131) (.tmp 139) 98 84 (.agg #[(.int .u8 0), (.int .i64 0), (.int .i64 0), (.int .i64 0), (.bool false), (.bool false), (.int .i64 0), (.int .i64 0), (.int .i64 0), (.int .i64 0), (.int .i64 0)]) 80 rfl Tryd.underlying98 info84 rfl (by decide) (by omega) v408 y407 (⟨(wrap64 ((wrap64 (16 * x7_4)) + 6)) % 256, (⟨6, x7_4, 0, false, false⟩ : S59), 1, 0, 3, 3, 0⟩ : S84) [.int .u8 ((wrap64 ((wrap64 (16 * x7_4)) + 6)) % 256), .int .i64 6, .int .i64 x7_4, .int .i64 0, .bool false, .bool false, .int .i64 1, .int .i64 0, .int .i64 3, .int .i64 3, .int .i64 0] (fun _ => True) (fun _ => False) rfl rfl ?aP (fun _ hk => hk.elim) ?aF ?aO ?aB ?aS ?aL ?_; (case aP => exact k84_mkM _ _ _ (⟨(wrap64 ((wrap64 (16 * x7_4)) + 6)) % 256, (⟨6, x7_4, 0, false, false⟩ : S59), 1, 0, 3, 3, 0⟩ : S84)); (case aB => exact b_now); (case aF => exact (fun _ _ => trivial)); (case aO => exact (by (with_reducible repeat (first | apply Kd.R_alloc | apply Kd.R_drewN | apply Kd.R_drew)); exact HO409.out)); (case aS => exact (below_size b_now)); (case aL => have := LMc50.out; omega); intro v411 w54 ho hb hg hat; rw [← Ny410.out] at ho; have n0_ := Aside0.mk (hb); have n1_ := Aside0.mk (ho); clear HB; clear HO409; have HB := n0_; have HO412 := n1_; clear n0_ n1_; clear ho hb hg hat) | ((with_reducible refine gate_builtin (b := .append) (xs := #[.tmp 141, .tmp 149]) rfl ?_); at_builtin; refine Kd.R_append k84 (w0 := w) w.heap.size rfl (.tmp 141) (.tmp 149) 98 84 (.agg #[(.int .u8 0), (.int .i64 0), (.int .i64 0), (.int .i64 0), (.bool false), (.bool false), (.int .i64 0), (.int .i64 0), (.int .i64 0), (.int .i64 0), (.int .i64 0)]) 80 rfl Tryd.underlying98 info84 rfl (by decide) (by omega) v411 y410 (⟨(wrap64 ((wrap64 (16 * x7_4)) + 13)) % 256, (⟨6, x7_4, 0, true, true⟩ : S59), 1, 1, 3, 0, 0⟩ : S84) [.int .u8 ((wrap64 ((wrap64 (16 * x7_4)) + 13)) % 256), .int .i64 6, .int .i64 x7_4, .int .i64 0, .bool true, .bool true, .int .i64 1, .int .i64 1, .int .i64 3, .int .i64 0, .int .i64 0] (fun _ => True) (fun _ => False) rfl rfl ?aP (fun _ hk => hk.elim) ?aF ?aO ?aB ?aS ?aL ?_; (case aP => exact k84_mkM _ _ _ (⟨(wrap64 ((wrap64 (16 * x7_4)) + 13)) % 256, (⟨6, x7_4, 0, true, true⟩ : S59), 1, 1, 3, 0, 0⟩ : S84)); (case aB => exact b_now); (case aF => exact (fun _ _ => trivial)); (case aO => exact (by (with_reducible repeat (first | apply Kd.R_alloc | apply Kd.R_drewN | apply Kd.R_drew)); exact HO412.out)); (case aS => exact (below_size b_now)); (case aL => have := LMc51.out; omega); intro v414 w55 ho hb hg hat; rw [← Ny413.out] at ho; have n0_ := Aside0.mk (hb); have n1_ := Aside0.mk (ho); clear HB; clear HO412; have HB := n0_; have HO415 := n1_; clear n0_ n1_; clear ho hb hg hat) | ((with_reducible refine gate_builtin (b := .append) (xs := #[.tmp 151, .tmp 159]) rfl ?_); at_builtin; refine Kd.R_append k84 (w0 := w) w.heap.size rfl (.tmp 151) (.tmp 159) 98 84 (.agg #[(.int .u8 0), (.int .i64 0), (.int .i64 0), (.int .i64 0), (.bool false), (.bool false), (.int .i64 0), (.int .i64 0), (.int .i64 0), (.int .i64 0), (.int .i64 0)]) 80 rfl Tryd.underlying98 info84 rfl (by decide) (by omega) v414 y413 (⟨(wrap64 ((wrap64 (16 * x7_4)) + 14)) % 256, (⟨6, x7_4, 0, false, true⟩ : S59), 1, 1, 3, 0, 0⟩ : S84) [.int .u8 ((wrap64 ((wrap64 (16 * x7_4)) + 14)) % 256), .int .i64 6, .int .i64 x7_4, .int .i64 0, .bool false, .bool true, .int .i64 1, .int .i64 1, .int .i64 3, .int .i64 0, .int .i64 0] (fun _ => True) (fun _ => False) rfl rfl ?aP (fun _ hk => hk.elim) ?aF ?aO ?aB ?aS ?aL ?_; (case aP => exact k84_mkM _ _ _ (⟨(wrap64 ((wrap64 (16 * x7_4)) + 14)) % 256, (⟨6, x7_4, 0, false, true⟩ : S59), 1, 1, 3, 0, 0⟩ : S84)); (case aB => exact b_now); (case aF => exact (fun _ _ => trivial)); (case aO => exact (by (with_reducible repeat (first | apply Kd.R_alloc | apply Kd.R_drewN | apply Kd.R_drew)); exact HO415.out)); (case aS => exact (below_size b_now)); (case aL => have := LMc52.out; omega); intro v417 w56 ho hb hg hat; rw [← Ny416.out] at ho; have n0_ := Aside0.mk (hb); have n1_ := Aside0.mk (ho); clear HB; clear HO415; have HB := n0_; have HO418 := n1_; clear n0_ n1_; clear ho hb hg hat))
                   go_roundg k4
                   case measure => have := HK1.out; have := HK2.out; have := HK3.out; have := HK4.out; omega
                   case rel => exact ⟨(y416), (wrap64 (x7_4 + 1)), eq_now, H', ⟨by have := HK1.out; have := HK2.out; have := HK3.out; have := HK4.out; omega⟩, ⟨by (with_reducible repeat (first | apply Kd.R_alloc | apply Kd.R_drewN | apply Kd.R_drew)); exact HO418.out⟩, ⟨b_now⟩⟩
                  ·rw [if_neg c52] at H
                   exact absurd H (by simp)
                 ·rw [if_neg c51] at H
                  exact absurd H (by simp)
                ·rw [if_neg c50] at H
                 exact absurd H (by simp)
               ·rw [if_neg c49] at H
                exact absurd H (by simp)
            ·rw [if_neg c46] at H
             have c46b0 : decide (x7_4 ≤ 13) = false := decide_eq_false c46
             clear c46
             by_cases c57 : x1_4.length < 1759218604441
             ·rw [if_pos c57] at H
              have LMc57 := Aside0.mk c57
              clear c57
              obtain ⟨y419, hy419⟩ : ∃ y_ : List (S84), y_ = (x1_4 ++ [(⟨5, (⟨7, 0, 0, false, false⟩ : S59), 0, 0, 3, 0, 0⟩ : S84)]) := ⟨_, rfl⟩
              replace H : (if y419.length < 1759218604441 then ((some (y419 ++ [(⟨133, (⟨8, 0, 0, false, false⟩ : S59), 0, 0, 0, 3, 0⟩ : S84)] : List (S84))).bind fun y422 => (if y422.length < 1759218604441 then ((some (y422 ++ [(⟨149, (⟨9, 0, 0, false, false⟩ : S59), 0, 0, 0, 0, 0⟩ : S84)] : List (S84))).bind fun y425 => (if y425.length < 1759218604441 then ((some (y425 ++ [(⟨24, (⟨10, 0, 0, false, false⟩ : S59), 2, 4, 0, 3, 0⟩ : S84)] : List (S84))).bind fun y428 => (if y428.length < 1759218604441 then (some (y428 ++ [(⟨24, (⟨11, 0, 0, false, false⟩ : S59), 2, 4, 0, 3, 1⟩ : S84)])) else (none))) else (none))) else (none))) else (none)) = some r := by first | (rw [hy419]; with_reducible exact H) | (have H2_ := (Option.bind_some _ _).symm.trans H; rw [hy419]; with_reducible exact H2_) | (have H2_ := (Option.bind_some _ _).symm.trans H; with_reducible exact H2_) | with_reducible exact H | (rw [hy419]; exact H) | exact H
              have Ny419 := Aside0.mk hy419
              clear hy419
              by_cases c58 : y419.length < 1759218604441
              ·rw [if_pos c58] at H
               have LMc58 := Aside0.mk c58
               clear c58
               obtain ⟨y422, hy422⟩ : ∃ y_ : List (S84), y_ = (y419 ++ [(⟨133, (⟨8, 0, 0, false, false⟩ : S59), 0, 0, 0, 3, 0⟩ : S84)]) := ⟨_, rfl⟩
               replace H : (if y422.length < 1759218604441 then ((some (y422 ++ [(⟨149, (⟨9, 0, 0, false, false⟩ : S59), 0, 0, 0, 0, 0⟩ : S84)] : List (S84))).bind fun y425 => (if y425.length < 1759218604441 then ((some (y425 ++ [(⟨24, (⟨10, 0, 0, false, false⟩ : S59), 2, 4, 0, 3, 0⟩ : S84)] : List (S84))).bind fun y428 => (if y428.length < 1759218604441 then (some (y428 ++ [(⟨24, (⟨11, 0, 0, false, false⟩ : S59), 2, 4, 0, 3, 1⟩ : S84)])) else (none))) else (none))) else (none)) = some r := by first | (rw [hy422]; with_reducible exact H) | (have H2_ := (Option.bind_some _ _).symm.trans H; rw [hy422]; with_reducible exact H2_) | (have H2_ := (Option.bind_some _ _).symm.trans H; with_reducible exact H2_) | with_reducible exact H | (rw [hy422]; exact H) | exact H
               have Ny422 := Aside0.mk hy422
               clear hy422
               by_cases c59 : y422.length < 1759218604441
               ·rw [if_pos c59] at H
                have LMc59 := Aside0.mk c59
                clear c59
                obtain ⟨y425, hy425⟩ : ∃ y_ : List (S84), y_ = (y422 ++ [(⟨149, (⟨9, 0, 0, false, false⟩ : S59), 0, 0, 0, 0, 0⟩ : S84)]) := ⟨_, rfl⟩
                replace H : (if y425.length < 1759218604441 then ((some (y425 ++ [(⟨24, (⟨10, 0, 0, false, false⟩ : S59), 2, 4, 0, 3, 0⟩ : S84)] : List (S84))).bind fun y428 => (if y428.length < 1759218604441 then (some (y428 ++ [(⟨24, (⟨11, 0, 0, false, false⟩ : S59), 2, 4, 0, 3, 1⟩ : S84)])) else (none))) else (none)) = some r := by first | (rw [hy425]; with_reducible exact H) | (have H2_ := (Option.bind_some _ _).symm.trans H; rw [hy425]; with_reducible exact H2_) | (have H2_ := (Option.bind_some _ _).symm.trans H; with_reducible exact H2_) | with_reducible exact H | (rw [hy425]; exact H) | exact H
                have Ny425 := Aside0.mk hy425
                clear hy425
                by_cases c60 : y425.length < 1759218604441
                ·rw [if_pos c60] at H
                 have LMc60 := Aside0.mk c60
                 clear c60
                 obtain ⟨y428, hy428⟩ : ∃ y_ : List (S84), y_ = (y425 ++ [(⟨24, (⟨10, 0, 0, false, false⟩ : S59), 2, 4, 0, 3, 0⟩ : S84)]) := ⟨_, rfl⟩
                 replace H : (if y428.length < 1759218604441 then (some (y428 ++ [(⟨24, (⟨11, 0, 0, false, false⟩ : S59), 2, 4, 0, 3, 1⟩ : S84)])) else (none)) = some r := by first | (rw [hy428]; with_reducible exact H) | (have H2_ := (Option.bind_some _ _).symm.trans H; rw [hy428]; with_reducible exact H2_) | (have H2_ := (Option.bind_some _ _).symm.trans H; with_reducible exact H2_) | with_reducible exact H | (rw [hy428]; exact H) | exact H
                 have Ny428 := Aside0.mk hy428
                 clear hy428
                 by_cases c61 : y428.length < 1759218604441
                 ·rw [if_pos c61] at H
                  have LMc61 := Aside0.mk c61
                  clear c61
                  obtain ⟨y431, hy431⟩ : ∃ y_ : List (S84), y_ = (y428 ++ [(⟨24, (⟨11, 0, 0, false, false⟩ : S59), 2, 4, 0, 3, 1⟩ : S84)]) := ⟨_, rfl⟩
                  replace H : (some y431) = some r := by first | (rw [hy431]; with_reducible exact H) | (have H2_ := (Option.bind_some _ _).symm.trans H; rw [hy431]; with_reducible exact H2_) | (have H2_ := (Option.bind_some _ _).symm.trans H; with_reducible exact H2_) | with_reducible exact H | (rw [hy431]; exact H) | exact H
                  have Ny431 := Aside0.mk hy431
                  clear hy431
                  obtain rfl := Option.some.inj H
                  go_wp2_with (first | ((with_reducible refine gate_builtin (b := .append) (xs := #[.tmp 161, .tmp 164]) rfl ?_); at_builtin; refine Kd.R_append k84 (w0 := w) w.heap.size rfl (.tmp 161) (.tmp 164) 98 84 (.agg #[(.int .u8 0), (.int .i64 0), (.int .i64 0), (.int .i64 0), (.bool false), (.bool false), (.int .i64 0), (.int .i64 0), (.int .i64 0), (.int .i64 0), (.int .i64 0)]) 80 rfl Tryd.underlying98 info84 rfl (by decide) (by omega) u1 x1_4 (⟨5, (⟨7, 0, 0, false, false⟩ : S59), 0, 0, 3, 0, 0⟩ : S84) [.int .u8 5, .int .i64 7, .int .i64 0, .int .i64 0, .bool false, .bool false, .int .i64 0, .int .i64 0, .int .i64 3, .int .i64 0, .int .i64 0] (fun _ => True) (fun _ => False) rfl rfl ?aP (fun _ hk => hk.elim) ?aF ?aO ?aB ?aS ?aL ?_; (case aP => exact k84_mkM _ _ _ (⟨5, (⟨7, 0, 0, false, false⟩ : S59), 0, 0, 3, 0, 0⟩ : S84)); (case aB => exact b_now); (case aF => exact (fun _ _ => trivial)); (case aO => exact (by (with_reducible repeat (first | apply Kd.R_alloc | apply Kd.R_drewN | apply Kd.R_drew)); exact HO_1.out)); (case aS => exact (below_size b_now)); (case aL => have := LMc57.out; omega); intro v420 w62 ho hb hg hat; rw [← Ny419.out] at ho; have n0_ := Aside0.mk (hb); have n1_ := Aside0.mk (ho); clear HB; clear HO_1; have HB := n0_; have HO421 := n1_; clear n0_ n1_; clear ho hb hg hat) | ((with_reducible refine gate_builtin (b := .append) (xs := #[.tmp 166, .tmp 169]) rfl ?_); at_builtin; refine Kd.R_append k84 (w0 := w) w.heap.size rfl (.tmp 166) (.tmp 169) 98 84 (.agg #[(.int .u8 0), (.int .i64 0), (.int .i64 0), (.int .i64 0), (.bool false), (.bool false), (.int .i64 0), (.int .i64 0), (.int .i64 0), (.int .i64 0), (.int .i64 0)]) 80 rfl Tryd.underlying98 info84 rfl (by decide) (by omega) v420 y419 (⟨133, (⟨8, 0, 0, false, false⟩ : S59), 0, 0, 0, 3, 0⟩ : S84) [.int .u8 133, .int .i64 8, .int .i64 0, .int .i64 0, .bool false, .bool false, .int .i64 0, .int .i64 0, .int .i64 0, .int .i64 3, .int .i64 0] (fun _ => True) (fun _ => False) rfl rfl ?aP (fun _ hk => hk.elim) ?aF ?aO ?aB ?aS ?aL ?_; (case aP => exact k84_mkM _ _ _ (⟨133, (⟨8, 0, 0, false, false⟩ : S59), 0, 0, 0, 3, 0⟩ : S84)); (case aB => exact b_now); (case aF => exact (fun _ _ => trivial)); (case aO => exact (by (with_reducible repeat (first | apply Kd.R_alloc | apply Kd.R_drewN | apply Kd.R_drew)); exact HO421.out)); (case aS => exact (below_size b_now)); (case aL => have := LMc58.out; omega); intro v423 w63 ho hb hg hat; rw [← Ny422.out] at ho; have n0_ := Aside0.mk (hb); have n1_ := Aside0.mk (ho); clear HB; clear HO421; have HB := n0_; have HO424 := n1_; clear n0_ n1_; clear ho hb hg hat) | ((with_reducible refine gate_builtin (b := .append) (xs := #[.tmp 171, .tmp 174]) rfl ?_); at_builtin; refine Kd.R_append k84 (w0 := w) w.heap.size rfl (.tmp 171) (.tmp 174) 98 84 (.agg #[(.int .u8 0), (.int .i64 0), (.int .i64 0), (.int .i64 0), (.bool false), (.bool false), (.int .i64 0), (.int .i64 0), (.int .i64 0), (.int .i64 0), (.int .i64 0)]) 80 rfl Tryd.underlying98 info84 rfl (by decide) (by omega) v423 y422 (⟨149, (⟨9, 0, 0, false, false⟩ : S59), 0, 0, 0, 0, 0⟩ : S84) [.int .u8 149, .int .i64 9, .int .i64 0, .int .i64 0, .bool false, .bool false, .int .i64 0, .int .i64 0, .int .i64 0, .int .i64 0, .int .i64 0] (fun _ => True) (fun _ => False) rfl rfl ?aP (fun _ hk => hk.elim) ?aF ?aO ?aB ?aS ?aL ?_; (case aP => exact k84_mkM _ _ _ (⟨149, (⟨9, 0, 0, false, false⟩ : S59), 0, 0, 0, 0, 0⟩ : S84)); (case aB => exact b_now); (case aF => exact (fun _ _ => trivial)); (case aO => exact (by (with_reducible repeat (first | apply Kd.R_alloc | apply Kd.R_drewN | apply Kd.R_drew)); exact HO424.out)); (case aS => exact (below_size b_now)); (case aL => have := LMc59.out; omega); intro v426 w64 ho hb hg hat; rw [← Ny425.out] at ho; have n0_ := Aside0.mk (hb); have n1_ := Aside0.mk (ho); clear HB; clear HO424; have HB := n0_; have HO427 := n1_; clear n0_ n1_; clear ho hb hg hat) | ((with_reducible refine gate_builtin (b := .append) (xs := #[.tmp 176, .tmp 179]) rfl ?_); at_builtin; refine Kd.R_append k84 (w0 := w) w.heap.size rfl (.tmp 176) (.tmp 179) 98 84 (.agg #[(.int .u8 0), (.int .i64 0), (.int .i64 0), (.int .i64 0), (.bool false), (.bool false), (.int .i64 0), (.int .i64 0), (.int .i64 0), (.int .i64 0), (.int .i64 0)]) 80 rfl Tryd.underlying98 info84 rfl (by decide) (by omega) v426 y425 (⟨24, (⟨10, 0, 0, false, false⟩ : S59), 2, 4, 0, 3, 0⟩ : S84) [.int .u8 24, .int .i64 10, .int .i64 0, .int .i64 0, .bool false, .bool false, .int .i64 2, .int .i64 4, .int .i64 0, .int .i64 3, .int .i64 0] (fun _ => True) (fun _ => False) rfl rfl ?aP (fun _ hk => hk.elim) ?aF ?aO ?aB ?aS ?aL ?_; (case aP => exact k84_mkM _ _ _ (⟨24, (⟨10, 0, 0, false, false⟩ : S59), 2, 4, 0, 3, 0⟩ : S84)); (case aB => exact b_now); (case aF => exact (fun _ _ => trivial)); (case aO => exact (by (with_reducible repeat (first | apply Kd.R_alloc | apply Kd.R_drewN | apply Kd.R_drew)); exact HO427.out)); (case aS => exact (below_size b_now)); (case aL => have := LMc60.out; omega); intro v429 w65 ho hb hg hat; rw [← Ny428.out] at ho; have n0_ := Aside0.mk (hb); have n1_ := Aside0.mk (ho); clear HB; clear HO427; have HB := n0_; have HO430 := n1_; clear n0_ n1_; clear ho hb hg hat) | ((with_reducible refine gate_builtin (b := .append) (xs := #[.tmp 181, .tmp 184]) rfl ?_); at_builtin; refine Kd.R_append k84 (w0 := w) w.heap.size rfl (.tmp 181) (.tmp 184) 98 84 (.agg #[(.int .u8 0), (.int .i64 0), (.int .i64 0), (.int .i64 0), (.bool false), (.bool false), (.int .i64 0), (.int .i64 0), (.int .i64 0), (.int .i64 0), (.int .i64 0)]) 80 rfl Tryd.underlying98 info84 rfl (by decide) (by omega) v429 y428 (⟨24, (⟨11, 0, 0, false, false⟩ : S59), 2, 4, 0, 3, 1⟩ : S84) [.int .u8 24, .int .i64 11, .int .i64 0, .int .i64 0, .bool false, .bool false, .int .i64 2, .int .i64 4, .int .i64 0, .int .i64 3, .int .i64 1] (fun _ => True) (fun _ => False) rfl rfl ?aP (fun _ hk => hk.elim) ?aF ?aO ?aB ?aS ?aL ?_; (case aP => exact k84_mkM _ _ _ (⟨24, (⟨11, 0, 0, false, false⟩ : S59), 2, 4, 0, 3, 1⟩ : S84)); (case aB => exact b_now); (case aF => exact (fun _ _ => trivial)); (case aO => exact (by (with_reducible repeat (first | apply Kd.R_alloc | apply Kd.R_drewN | apply Kd.R_drew)); exact HO430.out)); (case aS => exact (below_size b_now)); (case aL => have := LMc61.out; omega); intro v432 w66 ho hb hg hat; rw [← Ny431.out] at ho; have n0_ := Aside0.mk (hb); have n1_ := Aside0.mk (ho); clear HB; clear HO430; have HB := n0_; have HO433 := n1_; clear n0_ n1_; clear ho hb hg hat))
                  go_ret
                  exact ⟨_, ret_now, by (with_reducible repeat (first | apply Kd.R_alloc | apply Kd.R_drewN | apply Kd.R_drew)); exact HO433.out, b_now⟩
                 ·rw [if_neg c61] at H
                  exact absurd H (by simp)
                ·rw [if_neg c60] at H
                 exact absurd H (by simp)
               ·rw [if_neg c59] at H
                exact absurd H (by simp)
              ·rw [if_neg c58] at H
               exact absurd H (by simp)
             ·rw [if_neg c57] at H
              exact absurd H (by simp)

end Go.Proofs.YtondogoepcndiaaDoor.P
