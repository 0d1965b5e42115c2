/- Made by this session's driver over the kit's printer: for each Go function a Lean function with the same answers, and a proof that the Go call comes to these answers; no conditions but the ones each theorem names. -/
import Derived.Test.YtkjcjlegokdpdaaDoorPx0
namespace Go.Proofs.YtkjcjlegokdpdaaDoor.P
open Go.RowKit Go.Proofs.YtkjcjlegokdpdaaDoorW.PrintWords Go.Proofs.YtkjcjlegokdpdaaDoorW.PrintLast Go.Proofs.YtkjcjlegokdpdaaDoorW.PrintMore
attribute [local go_sem] max2_int min2_int max_two min_two max_three min_three max_four min_four   -- for this text's walks alone
set_option linter.unusedVariables false
set_option linter.unusedSimpArgs false

/-! ### stockaderef02_Rows: function 53 -/
mutual
def stockaderef02_Rows.l0 : Nat → List (S82) → Int → Option ((List (S82)))
 | 0, _, _ => none
 | k + 1, x1, x2 => if x2 ≤ 12 then (if x2 = 8 then (if x1.length < 1759218604441 then ((some (x1 ++ [(⟨(wrap64 ((wrap64 (16 * x2)) + 4)) % 256, (⟨1, x2, 0, false, false⟩ : S69), 2, 0, 0, 0, 0⟩ : S82)] : List (S82))).bind fun y249 => (if y249.length < 1759218604441 then (stockaderef02_Rows.l0 k (y249 ++ [(⟨(wrap64 ((wrap64 (16 * x2)) + 7)) % 256, (⟨1, x2, 0, true, false⟩ : S69), 2, 0, 0, 0, 0⟩ : S82)]) (wrap64 (x2 + 1))) else (none))) else (none)) else (if x1.length < 1759218604441 then ((some (x1 ++ [(⟨(wrap64 ((wrap64 (16 * x2)) + 4)) % 256, (⟨1, x2, 0, false, false⟩ : S69), 2, 0, 0, 3, 0⟩ : S82)] : List (S82))).bind fun y255 => (if y255.length < 1759218604441 then ((some (y255 ++ [(⟨(wrap64 ((wrap64 (16 * x2)) + 7)) % 256, (⟨1, x2, 0, true, false⟩ : S69), 2, 0, 0, 3, 0⟩ : S82)] : List (S82))).bind fun y258 => (if y258.length < 1759218604441 then ((some (y258 ++ [(⟨(wrap64 ((wrap64 (16 * x2)) + 12)) % 256, (⟨1, x2, 0, false, true⟩ : S69), 2, 1, 0, 0, 0⟩ : S82)] : List (S82))).bind fun y261 => (if y261.length < 1759218604441 then (stockaderef02_Rows.l0 k (y261 ++ [(⟨(wrap64 ((wrap64 (16 * x2)) + 15)) % 256, (⟨1, x2, 0, true, true⟩ : S69), 2, 1, 0, 0, 0⟩ : S82)]) (wrap64 (x2 + 1))) else (none))) else (none))) else (none))) else (none))) else (stockaderef02_Rows.l1 k x1 2)
def stockaderef02_Rows.l1 : Nat → List (S82) → Int → Option ((List (S82)))
 | 0, _, _ => none
 | k + 1, x1, x4 => if x4 ≤ 8 then (if x1.length < 1759218604441 then (stockaderef02_Rows.l1 k (x1 ++ [(⟨215, (⟨2, 0, x4, false, false⟩ : S69), 2, 0, 0, 4, wrap64 (8 * x4)⟩ : S82)]) (wrap64 (2 * x4))) else (none)) else (stockaderef02_Rows.l2 k x1 0)
def stockaderef02_Rows.l2 : Nat → List (S82) → Int → Option ((List (S82)))
 | 0, _, _ => none
 | k + 1, x1, x5 => if x5 < 4 then (if x5 = 0 then (if x1.length < 1759218604441 then ((some (x1 ++ [(⟨(wrap64 (97 + (wrap64 (8 * x5)))) % 256, (⟨3, 0, 4, false, false⟩ : S69), 2, 1, 3, 0, 0⟩ : S82)] : List (S82))).bind fun y270 => (if y270.length < 1759218604441 then ((some (y270 ++ [(⟨(wrap64 (98 + (wrap64 (8 * x5)))) % 256, (⟨5, 0, 4, false, false⟩ : S69), 1, 0, 3, 3, 0⟩ : S82)] : List (S82))).bind fun y273 => (if y273.length < 1759218604441 then (stockaderef02_Rows.l2 k (y273 ++ [(⟨(wrap64 (99 + (wrap64 (8 * x5)))) % 256, (⟨4, 0, 4, false, false⟩ : S69), 1, 1, 3, 0, 0⟩ : S82)]) (wrap64 (x5 + 1))) else (none))) else (none))) else (none)) else (if x5 = 1 then (if x1.length < 1759218604441 then ((some (x1 ++ [(⟨(wrap64 (97 + (wrap64 (8 * x5)))) % 256, (⟨3, 0, 2, false, false⟩ : S69), 2, 1, 3, 0, 0⟩ : S82)] : List (S82))).bind fun y279 => (if y279.length < 1759218604441 then ((some (y279 ++ [(⟨(wrap64 (98 + (wrap64 (8 * x5)))) % 256, (⟨5, 0, 2, false, false⟩ : S69), 1, 0, 3, 3, 0⟩ : S82)] : List (S82))).bind fun y282 => (if y282.length < 1759218604441 then (stockaderef02_Rows.l2 k (y282 ++ [(⟨(wrap64 (99 + (wrap64 (8 * x5)))) % 256, (⟨4, 0, 2, false, false⟩ : S69), 1, 1, 3, 0, 0⟩ : S82)]) (wrap64 (x5 + 1))) else (none))) else (none))) else (none)) else (if x5 = 2 then (if x1.length < 1759218604441 then ((some (x1 ++ [(⟨(wrap64 (97 + (wrap64 (8 * x5)))) % 256, (⟨3, 0, 1, false, false⟩ : S69), 2, 1, 3, 0, 0⟩ : S82)] : List (S82))).bind fun y288 => (if y288.length < 1759218604441 then ((some (y288 ++ [(⟨(wrap64 (98 + (wrap64 (8 * x5)))) % 256, (⟨5, 0, 1, false, false⟩ : S69), 1, 0, 3, 3, 0⟩ : S82)] : List (S82))).bind fun y291 => (if y291.length < 1759218604441 then (stockaderef02_Rows.l2 k (y291 ++ [(⟨(wrap64 (99 + (wrap64 (8 * x5)))) % 256, (⟨4, 0, 1, false, false⟩ : S69), 1, 1, 3, 0, 0⟩ : S82)]) (wrap64 (x5 + 1))) else (none))) else (none))) else (none)) else (if x1.length < 1759218604441 then ((some (x1 ++ [(⟨(wrap64 (97 + (wrap64 (8 * x5)))) % 256, (⟨3, 0, 8, false, false⟩ : S69), 2, 1, 3, 0, 0⟩ : S82)] : List (S82))).bind fun y297 => (if y297.length < 1759218604441 then ((some (y297 ++ [(⟨(wrap64 (98 + (wrap64 (8 * x5)))) % 256, (⟨5, 0, 8, false, false⟩ : S69), 1, 0, 3, 3, 0⟩ : S82)] : List (S82))).bind fun y300 => (if y300.length < 1759218604441 then (stockaderef02_Rows.l2 k (y300 ++ [(⟨(wrap64 (99 + (wrap64 (8 * x5)))) % 256, (⟨4, 0, 8, false, false⟩ : S69), 1, 1, 3, 0, 0⟩ : S82)]) (wrap64 (x5 + 1))) else (none))) else (none))) else (none))))) else (stockaderef02_Rows.l3 k x1 1)
def stockaderef02_Rows.l3 : Nat → List (S82) → Int → Option ((List (S82)))
 | 0, _, _ => none
 | k + 1, x1, x7 => if x7 ≤ 13 then (if x7 = 8 then (stockaderef02_Rows.l3 k x1 (wrap64 (x7 + 1))) else (if x7 = 9 then (stockaderef02_Rows.l3 k x1 (wrap64 (x7 + 1))) else (if x1.length < 1759218604441 then ((some (x1 ++ [(⟨(wrap64 ((wrap64 (16 * x7)) + 5)) % 256, (⟨6, x7, 0, true, false⟩ : S69), 1, 0, 3, 3, 0⟩ : S82)] : List (S82))).bind fun y306 => (if y306.length < 1759218604441 then ((some (y306 ++ [(⟨(wrap64 ((wrap64 (16 * x7)) + 6)) % 256, (⟨6, x7, 0, false, false⟩ : S69), 1, 0, 3, 3, 0⟩ : S82)] : List (S82))).bind fun y309 => (if y309.length < 1759218604441 then ((some (y309 ++ [(⟨(wrap64 ((wrap64 (16 * x7)) + 13)) % 256, (⟨6, x7, 0, true, true⟩ : S69), 1, 1, 3, 0, 0⟩ : S82)] : List (S82))).bind fun y312 => (if y312.length < 1759218604441 then (stockaderef02_Rows.l3 k (y312 ++ [(⟨(wrap64 ((wrap64 (16 * x7)) + 14)) % 256, (⟨6, x7, 0, false, true⟩ : S69), 1, 1, 3, 0, 0⟩ : S82)]) (wrap64 (x7 + 1))) else (none))) else (none))) else (none))) else (none)))) else (if x1.length < 1759218604441 then ((some (x1 ++ [(⟨5, (⟨7, 0, 0, false, false⟩ : S69), 0, 0, 3, 0, 0⟩ : S82)] : List (S82))).bind fun y318 => (if y318.length < 1759218604441 then ((some (y318 ++ [(⟨133, (⟨8, 0, 0, false, false⟩ : S69), 0, 0, 0, 3, 0⟩ : S82)] : List (S82))).bind fun y321 => (if y321.length < 1759218604441 then ((some (y321 ++ [(⟨149, (⟨9, 0, 0, false, false⟩ : S69), 0, 0, 0, 0, 0⟩ : S82)] : List (S82))).bind fun y324 => (if y324.length < 1759218604441 then ((some (y324 ++ [(⟨24, (⟨10, 0, 0, false, false⟩ : S69), 2, 4, 0, 3, 0⟩ : S82)] : List (S82))).bind fun y327 => (if y327.length < 1759218604441 then (some (y327 ++ [(⟨24, (⟨11, 0, 0, false, false⟩ : S69), 2, 4, 0, 3, 1⟩ : S82)])) else (none))) else (none))) else (none))) else (none))) else (none))
end
def stockaderef02_Rows.f (k : Nat)  : Option ((List (S82))) := stockaderef02_Rows.l0 k ([] : List (S82)) 0
theorem stockaderef02_Rows.mono_l : ∀ k, (∀ y0 y1, LeO (stockaderef02_Rows.l0 k y0 y1) (stockaderef02_Rows.l0 (k + 1) y0 y1)) ∧ (∀ y0 y1, LeO (stockaderef02_Rows.l1 k y0 y1) (stockaderef02_Rows.l1 (k + 1) y0 y1)) ∧ (∀ y0 y1, LeO (stockaderef02_Rows.l2 k y0 y1) (stockaderef02_Rows.l2 (k + 1) y0 y1)) ∧ (∀ y0 y1, LeO (stockaderef02_Rows.l3 k y0 y1) (stockaderef02_Rows.l3 (k + 1) y0 y1))
 | 0 => ⟨fun _ _ r h => by simp [stockaderef02_Rows.l0] at h, fun _ _ r h => by simp [stockaderef02_Rows.l1] at h, fun _ _ r h => by simp [stockaderef02_Rows.l2] at h, fun _ _ r h => by simp [stockaderef02_Rows.l3] at h⟩
 | k + 1 => by
  obtain ⟨ih0, ih1, ih2, ih3⟩ := stockaderef02_Rows.mono_l k
  refine ⟨?_, ?_, ?_, ?_⟩
  ·intro y0 y1
   unfold stockaderef02_Rows.l0
   repeat' first
   | (with_reducible exact ih0 _ _)
   | (with_reducible exact ih1 _ _)
   | (with_reducible exact ih2 _ _)
   | (with_reducible exact ih3 _ _)
   | (with_reducible exact LeO.refl _)
   | (with_reducible exact LeO.none _)
   | (with_reducible refine LeO.ite ?_ ?_)
   | (with_reducible refine LeO.bind ?_ (fun _ => ?_))
   | exact ih0 _ _
   | exact ih1 _ _
   | exact ih2 _ _
   | exact ih3 _ _
   | exact LeO.none _
   | refine LeO.ite ?_ ?_
   | refine LeO.bind ?_ (fun _ => ?_)
  ·intro y0 y1
   unfold stockaderef02_Rows.l1
   repeat' first
   | (with_reducible exact ih0 _ _)
   | (with_reducible exact ih1 _ _)
   | (with_reducible exact ih2 _ _)
   | (with_reducible exact ih3 _ _)
   | (with_reducible exact LeO.refl _)
   | (with_reducible exact LeO.none _)
   | (with_reducible refine LeO.ite ?_ ?_)
   | (with_reducible refine LeO.bind ?_ (fun _ => ?_))
   | exact ih0 _ _
   | exact ih1 _ _
   | exact ih2 _ _
   | exact ih3 _ _
   | exact LeO.none _
   | refine LeO.ite ?_ ?_
   | refine LeO.bind ?_ (fun _ => ?_)
  ·intro y0 y1
   unfold stockaderef02_Rows.l2
   repeat' first
   | (with_reducible exact ih0 _ _)
   | (with_reducible exact ih1 _ _)
   | (with_reducible exact ih2 _ _)
   | (with_reducible exact ih3 _ _)
   | (with_reducible exact LeO.refl _)
   | (with_reducible exact LeO.none _)
   | (with_reducible refine LeO.ite ?_ ?_)
   | (with_reducible refine LeO.bind ?_ (fun _ => ?_))
   | exact ih0 _ _
   | exact ih1 _ _
   | exact ih2 _ _
   | exact ih3 _ _
   | exact LeO.none _
   | refine LeO.ite ?_ ?_
   | refine LeO.bind ?_ (fun _ => ?_)
  ·intro y0 y1
   unfold stockaderef02_Rows.l3
   repeat' first
   | (with_reducible exact ih0 _ _)
   | (with_reducible exact ih1 _ _)
   | (with_reducible exact ih2 _ _)
   | (with_reducible exact ih3 _ _)
   | (with_reducible exact LeO.refl _)
   | (with_reducible exact LeO.none _)
   | (with_reducible refine LeO.ite ?_ ?_)
   | (with_reducible refine LeO.bind ?_ (fun _ => ?_))
   | exact ih0 _ _
   | exact ih1 _ _
   | exact ih2 _ _
   | exact ih3 _ _
   | exact LeO.none _
   | refine LeO.ite ?_ ?_
   | refine LeO.bind ?_ (fun _ => ?_)
theorem stockaderef02_Rows.mono : ∀ k, LeO (stockaderef02_Rows.f k ) (stockaderef02_Rows.f (k + 1) ) := by
 intro  k
 obtain ⟨ih0, ih1, ih2, ih3⟩ := stockaderef02_Rows.mono_l k
 unfold stockaderef02_Rows.f
 repeat' first
   | (with_reducible exact ih0 _ _)
   | (with_reducible exact ih1 _ _)
   | (with_reducible exact ih2 _ _)
   | (with_reducible exact ih3 _ _)
   | (with_reducible exact LeO.refl _)
   | (with_reducible exact LeO.none _)
   | (with_reducible refine LeO.ite ?_ ?_)
   | (with_reducible refine LeO.bind ?_ (fun _ => ?_))
   | exact ih0 _ _
   | exact ih1 _ _
   | exact ih2 _ _
   | exact ih3 _ _
   | exact LeO.none _
   | refine LeO.ite ?_ ?_
   | refine LeO.bind ?_ (fun _ => ?_)
set_option maxHeartbeats 8000000 in
set_option maxRecDepth 100000 in
theorem stockaderef02_Rows.calls (k : Nat)  (r : List (S82)) (w : World) (h : stockaderef02_Rows.f k  = some r) :
  Calls Tryd.prog 53 #[] w fun e w' => ∃ v0_ : Value, e = .returned (v0_) ∧ Kd.R k82 82 w' w.heap.size (fun _ => True) v0_ r ∧ Below w.heap.size w w' := by
 have hu69 := Tryd.underlying69
 have hu82 := Tryd.underlying82
 have HB := Aside0.mk (Below.refl w.heap.size w)
 have H : (stockaderef02_Rows.l0 k ([] : List (S82)) 0) = some r := h
 clear h
 have H' := Aside0.mk H
 clear H
 go_enter Tryd.func53, Tryd.ntmps53
 go_wp2
 go_loopg [1, 2] k (fun kq v1 v2 w' => ∃ (x1_1 : List (S82)) (x2_1 : Int), v2 = .int .i64 x2_1 ∧ Aside0 (stockaderef02_Rows.l0 kq x1_1 x2_1 = some r) ∧ Aside0 (kq ≤ k) ∧ Aside0 (Kd.R k82 82 w' w.heap.size (fun _ => True) v1 x1_1) ∧ Aside0 (Below w.heap.size w w'))
 case atStart => exact ⟨(([] : List (S82))), (0), eq_now, H', ⟨Nat.le_refl _⟩, ⟨by first | exact Kd.R_nil _ _ _ _ _ | exact Kd.N_nil _ _ _ _ _ | exact Kd.V_nil _ _ _ _ _ | exact Kd.Q_nil _ _ _ _ _ | exact Kd.S_nil _ _ _ _ _⟩, ⟨b_now⟩⟩
 case round =>
  clear H'
  obtain ⟨x1_1, x2_1, rfl, HA, HK1, HO_1, HB⟩ := hrel
  cases gk with
  | zero => exact absurd HA.out (by simp [stockaderef02_Rows.l0])
  | succ k1 =>
   have H := HA.out
   clear HA
   simp only [stockaderef02_Rows.l0] at H
   by_cases c1 : x2_1 ≤ 12
   ·rw [if_pos c1] at H
    have c1b0 : decide (x2_1 ≤ 12) = true := decide_eq_true c1
    clear c1
    by_cases c2 : x2_1 = 8
    ·rw [if_pos c2] at H
     have c2b0 : (x2_1 == 8) = true := beq_iff_eq.mpr c2
     have c2b1 : (x2_1 != 8) = false := bne_eq_false_iff_eq.mpr c2
     clear c2
     by_cases c3 : x1_1.length < 1759218604441
     ·rw [if_pos c3] at H
      have LMc3 := Aside0.mk c3
      clear c3
      obtain ⟨y249, hy249⟩ : ∃ y_ : List (S82), y_ = (x1_1 ++ [(⟨(wrap64 ((wrap64 (16 * x2_1)) + 4)) % 256, (⟨1, x2_1, 0, false, false⟩ : S69), 2, 0, 0, 0, 0⟩ : S82)]) := ⟨_, rfl⟩
      replace H : (if y249.length < 1759218604441 then (stockaderef02_Rows.l0 k1 (y249 ++ [(⟨(wrap64 ((wrap64 (16 * x2_1)) + 7)) % 256, (⟨1, x2_1, 0, true, false⟩ : S69), 2, 0, 0, 0, 0⟩ : S82)]) (wrap64 (x2_1 + 1))) else (none)) = some r := by first | (rw [hy249]; with_reducible exact H) | (have H2_ := (Option.bind_some _ _).symm.trans H; rw [hy249]; with_reducible exact H2_) | (have H2_ := (Option.bind_some _ _).symm.trans H; with_reducible exact H2_) | with_reducible exact H | (rw [hy249]; exact H) | exact H
      have Ny249 := Aside0.mk hy249
      clear hy249
      by_cases c4 : y249.length < 1759218604441
      ·rw [if_pos c4] at H
       have LMc4 := Aside0.mk c4
       clear c4
       obtain ⟨y252, hy252⟩ : ∃ y_ : List (S82), y_ = (y249 ++ [(⟨(wrap64 ((wrap64 (16 * x2_1)) + 7)) % 256, (⟨1, x2_1, 0, true, false⟩ : S69), 2, 0, 0, 0, 0⟩ : S82)]) := ⟨_, rfl⟩
       replace H : (stockaderef02_Rows.l0 k1 y252 (wrap64 (x2_1 + 1))) = some r := by first | (rw [hy252]; with_reducible exact H) | (have H2_ := (Option.bind_some _ _).symm.trans H; rw [hy252]; with_reducible exact H2_) | (have H2_ := (Option.bind_some _ _).symm.trans H; with_reducible exact H2_) | with_reducible exact H | (rw [hy252]; exact H) | exact H
       have Ny252 := Aside0.mk hy252
       clear hy252
       have H' := Aside0.mk H
       clear H
       go_wp2_with (first | ((with_reducible refine gate_builtin (b := .append) (xs := #[.tmp 14, .tmp 23]) rfl ?_); at_builtin; refine Kd.R_append k82 (w0 := w) w.heap.size rfl (.tmp 14) (.tmp 23) 88 82 (.agg #[(.int .u8 0), (.int .i64 0), (.int .i64 0), (.int .i64 0), (.bool false), (.bool false), (.int .i64 0), (.int .i64 0), (.int .i64 0), (.int .i64 0), (.int .i64 0)]) 80 rfl Tryd.underlying88 info82 rfl (by decide) (by omega) u1 x1_1 (⟨(wrap64 ((wrap64 (16 * x2_1)) + 4)) % 256, (⟨1, x2_1, 0, false, false⟩ : S69), 2, 0, 0, 0, 0⟩ : S82) [.int .u8 ((wrap64 ((wrap64 (16 * x2_1)) + 4)) % 256), .int .i64 1, .int .i64 x2_1, .int .i64 0, .bool false, .bool false, .int .i64 2, .int .i64 0, .int .i64 0, .int .i64 0, .int .i64 0] (fun _ => True) (fun _ => False) rfl rfl ?aP (fun _ hk => hk.elim) ?aF ?aO ?aB ?aS ?aL ?_; (case aP => exact k82_mkM _ _ _ (⟨(wrap64 ((wrap64 (16 * x2_1)) + 4)) % 256, (⟨1, x2_1, 0, false, false⟩ : S69), 2, 0, 0, 0, 0⟩ : S82)); (case aB => exact b_now); (case aF => exact (fun _ _ => trivial)); (case aO => exact (by (with_reducible repeat (first | apply Kd.R_alloc | apply Kd.R_drewN | apply Kd.R_drew)); exact HO_1.out)); (case aS => exact (below_size b_now)); (case aL => have := LMc3.out; omega); intro v250 w5 ho hb hg hat; rw [← Ny249.out] at ho; have n0_ := Aside0.mk (hb); have n1_ := Aside0.mk (ho); clear HB; clear HO_1; have HB := n0_; have HO251 := n1_; clear n0_ n1_; clear ho hb hg hat) | ((with_reducible refine gate_builtin (b := .append) (xs := #[.tmp 25, .tmp 34]) rfl ?_); at_builtin; refine Kd.R_append k82 (w0 := w) w.heap.size rfl (.tmp 25) (.tmp 34) 88 82 (.agg #[(.int .u8 0), (.int .i64 0), (.int .i64 0), (.int .i64 0), (.bool false), (.bool false), (.int .i64 0), (.int .i64 0), (.int .i64 0), (.int .i64 0), (.int .i64 0)]) 80 rfl Tryd.underlying88 info82 rfl (by decide) (by omega) v250 y249 (⟨(wrap64 ((wrap64 (16 * x2_1)) + 7)) % 256, (⟨1, x2_1, 0, true, false⟩ : S69), 2, 0, 0, 0, 0⟩ : S82) [.int .u8 ((wrap64 ((wrap64 (16 * x2_1)) + 7)) % 256), .int .i64 1, .int .i64 x2_1, .int .i64 0, .bool true, .bool false, .int .i64 2, .int .i64 0, .int .i64 0, .int .i64 0, .int .i64 0] (fun _ => True) (fun _ => False) rfl rfl ?aP (fun _ hk => hk.elim) ?aF ?aO ?aB ?aS ?aL ?_; (case aP => exact k82_mkM _ _ _ (⟨(wrap64 ((wrap64 (16 * x2_1)) + 7)) % 256, (⟨1, x2_1, 0, true, false⟩ : S69), 2, 0, 0, 0, 0⟩ : S82)); (case aB => exact b_now); (case aF => exact (fun _ _ => trivial)); (case aO => exact (by (with_reducible repeat (first | apply Kd.R_alloc | apply Kd.R_drewN | apply Kd.R_drew)); exact HO251.out)); (case aS => exact (below_size b_now)); (case aL => have := LMc4.out; omega); intro v253 w6 ho hb hg hat; rw [← Ny252.out] at ho; have n0_ := Aside0.mk (hb); have n1_ := Aside0.mk (ho); clear HB; clear HO251; have HB := n0_; have HO254 := n1_; clear n0_ n1_; clear ho hb hg hat))
       go_roundg k1
       case measure => have := HK1.out; omega
       case rel => exact ⟨(y252), (wrap64 (x2_1 + 1)), eq_now, H', ⟨by have := HK1.out; omega⟩, ⟨by (with_reducible repeat (first | apply Kd.R_alloc | apply Kd.R_drewN | apply Kd.R_drew)); exact HO254.out⟩, ⟨b_now⟩⟩
      ·rw [if_neg c4] at H
       exact absurd H (by simp)
     ·rw [if_neg c3] at H
      exact absurd H (by simp)
    ·rw [if_neg c2] at H
     have c2b0 : (x2_1 == 8) = false := beq_eq_false_iff_ne.mpr c2
     have c2b1 : (x2_1 != 8) = true := bne_iff_ne.mpr c2
     by_cases c7 : x1_1.length < 1759218604441
     ·rw [if_pos c7] at H
      have LMc7 := Aside0.mk c7
      clear c7
      obtain ⟨y255, hy255⟩ : ∃ y_ : List (S82), y_ = (x1_1 ++ [(⟨(wrap64 ((wrap64 (16 * x2_1)) + 4)) % 256, (⟨1, x2_1, 0, false, false⟩ : S69), 2, 0, 0, 3, 0⟩ : S82)]) := ⟨_, rfl⟩
      replace H : (if y255.length < 1759218604441 then ((some (y255 ++ [(⟨(wrap64 ((wrap64 (16 * x2_1)) + 7)) % 256, (⟨1, x2_1, 0, true, false⟩ : S69), 2, 0, 0, 3, 0⟩ : S82)] : List (S82))).bind fun y258 => (if y258.length < 1759218604441 then ((some (y258 ++ [(⟨(wrap64 ((wrap64 (16 * x2_1)) + 12)) % 256, (⟨1, x2_1, 0, false, true⟩ : S69), 2, 1, 0, 0, 0⟩ : S82)] : List (S82))).bind fun y261 => (if y261.length < 1759218604441 then (stockaderef02_Rows.l0 k1 (y261 ++ [(⟨(wrap64 ((wrap64 (16 * x2_1)) + 15)) % 256, (⟨1, x2_1, 0, true, true⟩ : S69), 2, 1, 0, 0, 0⟩ : S82)]) (wrap64 (x2_1 + 1))) else (none))) else (none))) else (none)) = some r := by first | (rw [hy255]; with_reducible exact H) | (have H2_ := (Option.bind_some _ _).symm.trans H; rw [hy255]; with_reducible exact H2_) | (have H2_ := (Option.bind_some _ _).symm.trans H; with_reducible exact H2_) | with_reducible exact H | (rw [hy255]; exact H) | exact H
      have Ny255 := Aside0.mk hy255
      clear hy255
      by_cases c8 : y255.length < 1759218604441
      ·rw [if_pos c8] at H
       have LMc8 := Aside0.mk c8
       clear c8
       obtain ⟨y258, hy258⟩ : ∃ y_ : List (S82), y_ = (y255 ++ [(⟨(wrap64 ((wrap64 (16 * x2_1)) + 7)) % 256, (⟨1, x2_1, 0, true, false⟩ : S69), 2, 0, 0, 3, 0⟩ : S82)]) := ⟨_, rfl⟩
       replace H : (if y258.length < 1759218604441 then ((some (y258 ++ [(⟨(wrap64 ((wrap64 (16 * x2_1)) + 12)) % 256, (⟨1, x2_1, 0, false, true⟩ : S69), 2, 1, 0, 0, 0⟩ : S82)] : List (S82))).bind fun y261 => (if y261.length < 1759218604441 then (stockaderef02_Rows.l0 k1 (y261 ++ [(⟨(wrap64 ((wrap64 (16 * x2_1)) + 15)) % 256, (⟨1, x2_1, 0, true, true⟩ : S69), 2, 1, 0, 0, 0⟩ : S82)]) (wrap64 (x2_1 + 1))) else (none))) else (none)) = some r := by first | (rw [hy258]; with_reducible exact H) | (have H2_ := (Option.bind_some _ _).symm.trans H; rw [hy258]; with_reducible exact H2_) | (have H2_ := (Option.bind_some _ _).symm.trans H; with_reducible exact H2_) | with_reducible exact H | (rw [hy258]; exact H) | exact H
       have Ny258 := Aside0.mk hy258
       clear hy258
       by_cases c9 : y258.length < 1759218604441
       ·rw [if_pos c9] at H
        have LMc9 := Aside0.mk c9
        clear c9
        obtain ⟨y261, hy261⟩ : ∃ y_ : List (S82), y_ = (y258 ++ [(⟨(wrap64 ((wrap64 (16 * x2_1)) + 12)) % 256, (⟨1, x2_1, 0, false, true⟩ : S69), 2, 1, 0, 0, 0⟩ : S82)]) := ⟨_, rfl⟩
        replace H : (if y261.length < 1759218604441 then (stockaderef02_Rows.l0 k1 (y261 ++ [(⟨(wrap64 ((wrap64 (16 * x2_1)) + 15)) % 256, (⟨1, x2_1, 0, true, true⟩ : S69), 2, 1, 0, 0, 0⟩ : S82)]) (wrap64 (x2_1 + 1))) else (none)) = some r := by first | (rw [hy261]; with_reducible exact H) | (have H2_ := (Option.bind_some _ _).symm.trans H; rw [hy261]; with_reducible exact H2_) | (have H2_ := (Option.bind_some _ _).symm.trans H; with_reducible exact H2_) | with_reducible exact H | (rw [hy261]; exact H) | exact H
        have Ny261 := Aside0.mk hy261
        clear hy261
        by_cases c10 : y261.length < 1759218604441
        ·rw [if_pos c10] at H
         have LMc10 := Aside0.mk c10
         clear c10
         obtain ⟨y264, hy264⟩ : ∃ y_ : List (S82), y_ = (y261 ++ [(⟨(wrap64 ((wrap64 (16 * x2_1)) + 15)) % 256, (⟨1, x2_1, 0, true, true⟩ : S69), 2, 1, 0, 0, 0⟩ : S82)]) := ⟨_, rfl⟩
         replace H : (stockaderef02_Rows.l0 k1 y264 (wrap64 (x2_1 + 1))) = some r := by first | (rw [hy264]; with_reducible exact H) | (have H2_ := (Option.bind_some _ _).symm.trans H; rw [hy264]; with_reducible exact H2_) | (have H2_ := (Option.bind_some _ _).symm.trans H; with_reducible exact H2_) | with_reducible exact H | (rw [hy264]; exact H) | exact H
         have Ny264 := Aside0.mk hy264
         clear hy264
         have H' := Aside0.mk H
         clear H
         go_wp2_with (first | ((with_reducible refine gate_builtin (b := .append) (xs := #[.tmp 14, .tmp 23]) rfl ?_); at_builtin; refine Kd.R_append k82 (w0 := w) w.heap.size rfl (.tmp 14) (.tmp 23) 88 82 (.agg #[(.int .u8 0), (.int .i64 0), (.int .i64 0), (.int .i64 0), (.bool false), (.bool false), (.int .i64 0), (.int .i64 0), (.int .i64 0), (.int .i64 0), (.int .i64 0)]) 80 rfl Tryd.underlying88 info82 rfl (by decide) (by omega) u1 x1_1 (⟨(wrap64 ((wrap64 (16 * x2_1)) + 4)) % 256, (⟨1, x2_1, 0, false, false⟩ : S69), 2, 0, 0, 3, 0⟩ : S82) [.int .u8 ((wrap64 ((wrap64 (16 * x2_1)) + 4)) % 256), .int .i64 1, .int .i64 x2_1, .int .i64 0, .bool false, .bool false, .int .i64 2, .int .i64 0, .int .i64 0, .int .i64 3, .int .i64 0] (fun _ => True) (fun _ => False) rfl rfl ?aP (fun _ hk => hk.elim) ?aF ?aO ?aB ?aS ?aL ?_; (case aP => exact k82_mkM _ _ _ (⟨(wrap64 ((wrap64 (16 * x2_1)) + 4)) % 256, (⟨1, x2_1, 0, false, false⟩ : S69), 2, 0, 0, 3, 0⟩ : S82)); (case aB => exact b_now); (case aF => exact (fun _ _ => trivial)); (case aO => exact (by (with_reducible repeat (first | apply Kd.R_alloc | apply Kd.R_drewN | apply Kd.R_drew)); exact HO_1.out)); (case aS => exact (below_size b_now)); (case aL => have := LMc7.out; omega); intro v256 w11 ho hb hg hat; rw [← Ny255.out] at ho; have n0_ := Aside0.mk (hb); have n1_ := Aside0.mk (ho); clear HB; clear HO_1; have HB := n0_; have HO257 := n1_; clear n0_ n1_; clear ho hb hg hat) | ((with_reducible refine gate_builtin (b := .append) (xs := #[.tmp 25, .tmp 34]) rfl ?_); at_builtin; refine Kd.R_append k82 (w0 := w) w.heap.size rfl (.tmp 25) (.tmp 34) 88 82 (.agg #[(.int .u8 0), (.int .i64 0), (.int .i64 0), (.int .i64 0), (.bool false), (.bool false), (.int .i64 0), (.int .i64 0), (.int .i64 0), (.int .i64 0), (.int .i64 0)]) 80 rfl Tryd.underlying88 info82 rfl (by decide) (by omega) v256 y255 (⟨(wrap64 ((wrap64 (16 * x2_1)) + 7)) % 256, (⟨1, x2_1, 0, true, false⟩ : S69), 2, 0, 0, 3, 0⟩ : S82) [.int .u8 ((wrap64 ((wrap64 (16 * x2_1)) + 7)) % 256), .int .i64 1, .int .i64 x2_1, .int .i64 0, .bool true, .bool false, .int .i64 2, .int .i64 0, .int .i64 0, .int .i64 3, .int .i64 0] (fun _ => True) (fun _ => False) rfl rfl ?aP (fun _ hk => hk.elim) ?aF ?aO ?aB ?aS ?aL ?_; (case aP => exact k82_mkM _ _ _ (⟨(wrap64 ((wrap64 (16 * x2_1)) + 7)) % 256, (⟨1, x2_1, 0, true, false⟩ : S69), 2, 0, 0, 3, 0⟩ : S82)); (case aB => exact b_now); (case aF => exact (fun _ _ => trivial)); (case aO => exact (by (with_reducible repeat (first | apply Kd.R_alloc | apply Kd.R_drewN | apply Kd.R_drew)); exact HO257.out)); (case aS => exact (below_size b_now)); (case aL => have := LMc8.out; omega); intro v259 w12 ho hb hg hat; rw [← Ny258.out] at ho; have n0_ := Aside0.mk (hb); have n1_ := Aside0.mk (ho); clear HB; clear HO257; have HB := n0_; have HO260 := n1_; clear n0_ n1_; clear ho hb hg hat) | ((with_reducible refine gate_builtin (b := .append) (xs := #[.tmp 38, .tmp 46]) rfl ?_); at_builtin; refine Kd.R_append k82 (w0 := w) w.heap.size rfl (.tmp 38) (.tmp 46) 88 82 (.agg #[(.int .u8 0), (.int .i64 0), (.int .i64 0), (.int .i64 0), (.bool false), (.bool false), (.int .i64 0), (.int .i64 0), (.int .i64 0), (.int .i64 0), (.int .i64 0)]) 80 rfl Tryd.underlying88 info82 rfl (by decide) (by omega) v259 y258 (⟨(wrap64 ((wrap64 (16 * x2_1)) + 12)) % 256, (⟨1, x2_1, 0, false, true⟩ : S69), 2, 1, 0, 0, 0⟩ : S82) [.int .u8 ((wrap64 ((wrap64 (16 * x2_1)) + 12)) % 256), .int .i64 1, .int .i64 x2_1, .int .i64 0, .bool false, .bool true, .int .i64 2, .int .i64 1, .int .i64 0, .int .i64 0, .int .i64 0] (fun _ => True) (fun _ => False) rfl rfl ?aP (fun _ hk => hk.elim) ?aF ?aO ?aB ?aS ?aL ?_; (case aP => exact k82_mkM _ _ _ (⟨(wrap64 ((wrap64 (16 * x2_1)) + 12)) % 256, (⟨1, x2_1, 0, false, true⟩ : S69), 2, 1, 0, 0, 0⟩ : S82)); (case aB => exact b_now); (case aF => exact (fun _ _ => trivial)); (case aO => exact (by (with_reducible repeat (first | apply Kd.R_alloc | apply Kd.R_drewN | apply Kd.R_drew)); exact HO260.out)); (case aS => exact (below_size b_now)); (case aL => have := LMc9.out; omega); intro v262 w13 ho hb hg hat; rw [← Ny261.out] at ho; have n0_ := Aside0.mk (hb); have n1_ := Aside0.mk (ho); clear HB; clear HO260; have HB := n0_; have HO263 := n1_; clear n0_ n1_; clear ho hb hg hat) | ((with_reducible refine gate_builtin (b := .append) (xs := #[.tmp 48, .tmp 56]) rfl ?_); at_builtin; refine Kd.R_append k82 (w0 := w) w.heap.size rfl (.tmp 48) (.tmp 56) 88 82 (.agg #[(.int .u8 0), (.int .i64 0), (.int .i64 0), (.int .i64 0), (.bool false), (.bool false), (.int .i64 0), (.int .i64 0), (.int .i64 0), (.int .i64 0), (.int .i64 0)]) 80 rfl Tryd.underlying88 info82 rfl (by decide) (by omega) v262 y261 (⟨(wrap64 ((wrap64 (16 * x2_1)) + 15)) % 256, (⟨1, x2_1, 0, true, true⟩ : S69), 2, 1, 0, 0, 0⟩ : S82) [.int .u8 ((wrap64 ((wrap64 (16 * x2_1)) + 15)) % 256), .int .i64 1, .int .i64 x2_1, .int .i64 0, .bool true, .bool true, .int .i64 2, .int .i64 1, .int .i64 0, .int .i64 0, .int .i64 0] (fun _ => True) (fun _ => False) rfl rfl ?aP (fun _ hk => hk.elim) ?aF ?aO ?aB ?aS ?aL ?_; (case aP => exact k82_mkM _ _ _ (⟨(wrap64 ((wrap64 (16 * x2_1)) + 15)) % 256, (⟨1, x2_1, 0, true, true⟩ : S69), 2, 1, 0, 0, 0⟩ : S82)); (case aB => exact b_now); (case aF => exact (fun _ _ => trivial)); (case aO => exact (by (with_reducible repeat (first | apply Kd.R_alloc | apply Kd.R_drewN | apply Kd.R_drew)); exact HO263.out)); (case aS => exact (below_size b_now)); (case aL => have := LMc10.out; omega); intro v265 w14 ho hb hg hat; rw [← Ny264.out] at ho; have n0_ := Aside0.mk (hb); have n1_ := Aside0.mk (ho); clear HB; clear HO263; have HB := n0_; have HO266 := n1_; clear n0_ n1_; clear ho hb hg hat))
         go_roundg k1
         case measure => have := HK1.out; omega
         case rel => exact ⟨(y264), (wrap64 (x2_1 + 1)), eq_now, H', ⟨by have := HK1.out; omega⟩, ⟨by (with_reducible repeat (first | apply Kd.R_alloc | apply Kd.R_drewN | apply Kd.R_drew)); exact HO266.out⟩, ⟨b_now⟩⟩
        ·rw [if_neg c10] at H
         exact absurd H (by simp)
       ·rw [if_neg c9] at H
        exact absurd H (by simp)
      ·rw [if_neg c8] at H
       exact absurd H (by simp)
     ·rw [if_neg c7] at H
      exact absurd H (by simp)
   ·rw [if_neg c1] at H
    have c1b0 : decide (x2_1 ≤ 12) = false := decide_eq_false c1
    clear c1
    have H' := Aside0.mk H
    clear H
    go_wp2
    go_loopg [1, 4] k1 (fun kq v1 v4 w' => ∃ (x1_2 : List (S82)) (x4_2 : Int), v4 = .int .i64 x4_2 ∧ Aside0 (stockaderef02_Rows.l1 kq x1_2 x4_2 = some r) ∧ Aside0 (kq ≤ k1) ∧ Aside0 (Kd.R k82 82 w' w.heap.size (fun _ => True) v1 x1_2) ∧ Aside0 (Below w.heap.size w w'))
    case atStart => exact ⟨(x1_1), (2), eq_now, H', ⟨Nat.le_refl _⟩, ⟨by (with_reducible repeat (first | apply Kd.R_alloc | apply Kd.R_drewN | apply Kd.R_drew)); exact HO_1.out⟩, ⟨b_now⟩⟩
    case round =>
     clear H'
     try clear c1
     try clear c1b0
     try clear c2
     try clear c2b0
     try clear c2b1
     try clear p2
     try clear c3
     try clear c4
     try clear c5
     try clear p6
     try clear c7
     try clear c8
     try clear c9
     try clear c10
     obtain ⟨x1_2, x4_2, rfl, HA, HK2, HO_1, HB⟩ := hrel
     cases gk with
     | zero => exact absurd HA.out (by simp [stockaderef02_Rows.l1])
     | succ k2 =>
      have H := HA.out
      clear HA
      simp only [stockaderef02_Rows.l1] at H
      by_cases c15 : x4_2 ≤ 8
      ·rw [if_pos c15] at H
       have c15b0 : decide (x4_2 ≤ 8) = true := decide_eq_true c15
       clear c15
       by_cases c16 : x1_2.length < 1759218604441
       ·rw [if_pos c16] at H
        have LMc16 := Aside0.mk c16
        clear c16
        obtain ⟨y267, hy267⟩ : ∃ y_ : List (S82), y_ = (x1_2 ++ [(⟨215, (⟨2, 0, x4_2, false, false⟩ : S69), 2, 0, 0, 4, wrap64 (8 * x4_2)⟩ : S82)]) := ⟨_, rfl⟩
        replace H : (stockaderef02_Rows.l1 k2 y267 (wrap64 (2 * x4_2))) = some r := by first | (rw [hy267]; with_reducible exact H) | (have H2_ := (Option.bind_some _ _).symm.trans H; rw [hy267]; with_reducible exact H2_) | (have H2_ := (Option.bind_some _ _).symm.trans H; with_reducible exact H2_) | with_reducible exact H | (rw [hy267]; exact H) | exact H
        have Ny267 := Aside0.mk hy267
        clear hy267
        have H' := Aside0.mk H
        clear H
        go_wp2_with (first | ((with_reducible refine gate_builtin (b := .append) (xs := #[.tmp 62, .tmp 68]) rfl ?_); at_builtin; refine Kd.R_append k82 (w0 := w) w.heap.size rfl (.tmp 62) (.tmp 68) 88 82 (.agg #[(.int .u8 0), (.int .i64 0), (.int .i64 0), (.int .i64 0), (.bool false), (.bool false), (.int .i64 0), (.int .i64 0), (.int .i64 0), (.int .i64 0), (.int .i64 0)]) 80 rfl Tryd.underlying88 info82 rfl (by decide) (by omega) u1 x1_2 (⟨215, (⟨2, 0, x4_2, false, false⟩ : S69), 2, 0, 0, 4, wrap64 (8 * x4_2)⟩ : S82) [.int .u8 215, .int .i64 2, .int .i64 0, .int .i64 x4_2, .bool false, .bool false, .int .i64 2, .int .i64 0, .int .i64 0, .int .i64 4, .int .i64 (wrap64 (8 * x4_2))] (fun _ => True) (fun _ => False) rfl rfl ?aP (fun _ hk => hk.elim) ?aF ?aO ?aB ?aS ?aL ?_; (case aP => exact k82_mkM _ _ _ (⟨215, (⟨2, 0, x4_2, false, false⟩ : S69), 2, 0, 0, 4, wrap64 (8 * x4_2)⟩ : S82)); (case aB => exact b_now); (case aF => exact (fun _ _ => trivial)); (case aO => exact (by (with_reducible repeat (first | apply Kd.R_alloc | apply Kd.R_drewN | apply Kd.R_drew)); exact HO_1.out)); (case aS => exact (below_size b_now)); (case aL => have := LMc16.out; omega); intro v268 w17 ho hb hg hat; rw [← Ny267.out] at ho; have n0_ := Aside0.mk (hb); have n1_ := Aside0.mk (ho); clear HB; clear HO_1; have HB := n0_; have HO269 := n1_; clear n0_ n1_; clear ho hb hg hat))
        go_roundg k2
        case measure => have := HK1.out; have := HK2.out; omega
        case rel => exact ⟨(y267), (wrap64 (2 * x4_2)), eq_now, H', ⟨by have := HK1.out; have := HK2.out; omega⟩, ⟨by (with_reducible repeat (first | apply Kd.R_alloc | apply Kd.R_drewN | apply Kd.R_drew)); exact HO269.out⟩, ⟨b_now⟩⟩
       ·rw [if_neg c16] at H
        exact absurd H (by simp)
      ·rw [if_neg c15] at H
       have c15b0 : decide (x4_2 ≤ 8) = false := decide_eq_false c15
       clear c15
       have H' := Aside0.mk H
       clear H
       go_wp2
       go_loopg [1, 5] k2 (fun kq v1 v5 w' => ∃ (x1_3 : List (S82)) (x5_3 : Int), v5 = .int .i64 x5_3 ∧ Aside0 (stockaderef02_Rows.l2 kq x1_3 x5_3 = some r) ∧ Aside0 (kq ≤ k2) ∧ Aside0 (Kd.R k82 82 w' w.heap.size (fun _ => True) v1 x1_3) ∧ Aside0 (Below w.heap.size w w'))
       case atStart => exact ⟨(x1_2), (0), eq_now, H', ⟨Nat.le_refl _⟩, ⟨by (with_reducible repeat (first | apply Kd.R_alloc | apply Kd.R_drewN | apply Kd.R_drew)); exact HO_1.out⟩, ⟨b_now⟩⟩
       case round =>
        clear H'
        try clear c1
        try clear c1b0
        try clear c2
        try clear c2b0
        try clear c2b1
        try clear p2
        try clear c3
        try clear c4
        try clear c5
        try clear p6
        try clear c7
        try clear c8
        try clear c9
        try clear c10
        try clear c15
        try clear c15b0
        try clear c16
        try clear p2
        try clear p6
        obtain ⟨x1_3, x5_3, rfl, HA, HK3, HO_1, HB⟩ := hrel
        cases gk with
        | zero => exact absurd HA.out (by simp [stockaderef02_Rows.l2])
        | succ k3 =>
         have H := HA.out
         clear HA
         simp only [stockaderef02_Rows.l2] at H
         by_cases c18 : x5_3 < 4
         ·rw [if_pos c18] at H
          have c18b0 : decide (x5_3 < 4) = true := decide_eq_true c18
          clear c18
          by_cases c19 : x5_3 = 0
          ·rw [if_pos c19] at H
           have c19b0 : (x5_3 == 0) = true := beq_iff_eq.mpr c19
           have c19b1 : (x5_3 != 0) = false := bne_eq_false_iff_eq.mpr c19
           clear c19
           by_cases c20 : x1_3.length < 1759218604441
           ·rw [if_pos c20] at H
            have LMc20 := Aside0.mk c20
            clear c20
            obtain ⟨y270, hy270⟩ : ∃ y_ : List (S82), y_ = (x1_3 ++ [(⟨(wrap64 (97 + (wrap64 (8 * x5_3)))) % 256, (⟨3, 0, 4, false, false⟩ : S69), 2, 1, 3, 0, 0⟩ : S82)]) := ⟨_, rfl⟩
            replace H : (if y270.length < 1759218604441 then ((some (y270 ++ [(⟨(wrap64 (98 + (wrap64 (8 * x5_3)))) % 256, (⟨5, 0, 4, false, false⟩ : S69), 1, 0, 3, 3, 0⟩ : S82)] : List (S82))).bind fun y273 => (if y273.length < 1759218604441 then (stockaderef02_Rows.l2 k3 (y273 ++ [(⟨(wrap64 (99 + (wrap64 (8 * x5_3)))) % 256, (⟨4, 0, 4, false, false⟩ : S69), 1, 1, 3, 0, 0⟩ : S82)]) (wrap64 (x5_3 + 1))) else (none))) else (none)) = some r := by first | (rw [hy270]; with_reducible exact H) | (have H2_ := (Option.bind_some _ _).symm.trans H; rw [hy270]; with_reducible exact H2_) | (have H2_ := (Option.bind_some _ _).symm.trans H; with_reducible exact H2_) | with_reducible exact H | (rw [hy270]; exact H) | exact H
            have Ny270 := Aside0.mk hy270
            clear hy270
            by_cases c21 : y270.length < 1759218604441
            ·rw [if_pos c21] at H
             have LMc21 := Aside0.mk c21
             clear c21
             obtain ⟨y273, hy273⟩ : ∃ y_ : List (S82), y_ = (y270 ++ [(⟨(wrap64 (98 + (wrap64 (8 * x5_3)))) % 256, (⟨5, 0, 4, false, false⟩ : S69), 1, 0, 3, 3, 0⟩ : S82)]) := ⟨_, rfl⟩
             replace H : (if y273.length < 1759218604441 then (stockaderef02_Rows.l2 k3 (y273 ++ [(⟨(wrap64 (99 + (wrap64 (8 * x5_3)))) % 256, (⟨4, 0, 4, false, false⟩ : S69), 1, 1, 3, 0, 0⟩ : S82)]) (wrap64 (x5_3 + 1))) else (none)) = some r := by first | (rw [hy273]; with_reducible exact H) | (have H2_ := (Option.bind_some _ _).symm.trans H; rw [hy273]; with_reducible exact H2_) | (have H2_ := (Option.bind_some _ _).symm.trans H; with_reducible exact H2_) | with_reducible exact H | (rw [hy273]; exact H) | exact H
             have Ny273 := Aside0.mk hy273
             clear hy273
             by_cases c22 : y273.length < 1759218604441
             ·rw [if_pos c22] at H
              have LMc22 := Aside0.mk c22
              clear c22
              obtain ⟨y276, hy276⟩ : ∃ y_ : List (S82), y_ = (y273 ++ [(⟨(wrap64 (99 + (wrap64 (8 * x5_3)))) % 256, (⟨4, 0, 4, false, false⟩ : S69), 1, 1, 3, 0, 0⟩ : S82)]) := ⟨_, rfl⟩
              replace H : (stockaderef02_Rows.l2 k3 y276 (wrap64 (x5_3 + 1))) = some r := by first | (rw [hy276]; with_reducible exact H) | (have H2_ := (Option.bind_some _ _).symm.trans H; rw [hy276]; with_reducible exact H2_) | (have H2_ := (Option.bind_some _ _).symm.trans H; with_reducible exact H2_) | with_reducible exact H | (rw [hy276]; exact H) | exact H
              have Ny276 := Aside0.mk hy276
              clear hy276
              have H' := Aside0.mk H
              clear H
              go_wp2_with (first | ((with_reducible refine gate_builtin (b := .append) (xs := #[.tmp 81, .tmp 89]) rfl ?_); at_builtin; refine Kd.R_append k82 (w0 := w) w.heap.size rfl (.tmp 81) (.tmp 89) 88 82 (.agg #[(.int .u8 0), (.int .i64 0), (.int .i64 0), (.int .i64 0), (.bool false), (.bool false), (.int .i64 0), (.int .i64 0), (.int .i64 0), (.int .i64 0), (.int .i64 0)]) 80 rfl Tryd.underlying88 info82 rfl (by decide) (by omega) u1 x1_3 (⟨(wrap64 (97 + (wrap64 (8 * x5_3)))) % 256, (⟨3, 0, 4, false, false⟩ : S69), 2, 1, 3, 0, 0⟩ : S82) [.int .u8 ((wrap64 (97 + (wrap64 (8 * x5_3)))) % 256), .int .i64 3, .int .i64 0, .int .i64 4, .bool false, .bool false, .int .i64 2, .int .i64 1, .int .i64 3, .int .i64 0, .int .i64 0] (fun _ => True) (fun _ => False) rfl rfl ?aP (fun _ hk => hk.elim) ?aF ?aO ?aB ?aS ?aL ?_; (case aP => exact k82_mkM _ _ _ (⟨(wrap64 (97 + (wrap64 (8 * x5_3)))) % 256, (⟨3, 0, 4, false, false⟩ : S69), 2, 1, 3, 0, 0⟩ : S82)); (case aB => exact b_now); (case aF => exact (fun _ _ => trivial)); (case aO => exact (by (with_reducible repeat (first | apply Kd.R_alloc | apply Kd.R_drewN | apply Kd.R_drew)); exact HO_1.out)); (case aS => exact (below_size b_now)); (case aL => have := LMc20.out; omega); intro v271 w23 ho hb hg hat; rw [← Ny270.out] at ho; have n0_ := Aside0.mk (hb); have n1_ := Aside0.mk (ho); clear HB; clear HO_1; have HB := n0_; have HO272 := n1_; clear n0_ n1_; clear ho hb hg hat) | ((with_reducible refine gate_builtin (b := .append) (xs := #[.tmp 91, .tmp 99]) rfl ?_); at_builtin; refine Kd.R_append k82 (w0 := w) w.heap.size rfl (.tmp 91) (.tmp 99) 88 82 (.agg #[(.int .u8 0), (.int .i64 0), (.int .i64 0), (.int .i64 0), (.bool false), (.bool false), (.int .i64 0), (.int .i64 0), (.int .i64 0), (.int .i64 0), (.int .i64 0)]) 80 rfl Tryd.underlying88 info82 rfl (by decide) (by omega) v271 y270 (⟨(wrap64 (98 + (wrap64 (8 * x5_3)))) % 256, (⟨5, 0, 4, false, false⟩ : S69), 1, 0, 3, 3, 0⟩ : S82) [.int .u8 ((wrap64 (98 + (wrap64 (8 * x5_3)))) % 256), .int .i64 5, .int .i64 0, .int .i64 4, .bool false, .bool false, .int .i64 1, .int .i64 0, .int .i64 3, .int .i64 3, .int .i64 0] (fun _ => True) (fun _ => False) rfl rfl ?aP (fun _ hk => hk.elim) ?aF ?aO ?aB ?aS ?aL ?_; (case aP => exact k82_mkM _ _ _ (⟨(wrap64 (98 + (wrap64 (8 * x5_3)))) % 256, (⟨5, 0, 4, false, false⟩ : S69), 1, 0, 3, 3, 0⟩ : S82)); (case aB => exact b_now); (case aF => exact (fun _ _ => trivial)); (case aO => exact (by (with_reducible repeat (first | apply Kd.R_alloc | apply Kd.R_drewN | apply Kd.R_drew)); exact HO272.out)); (case aS => exact (below_size b_now)); (case aL => have := LMc21.out; omega); intro v274 w24 ho hb hg hat; rw [← Ny273.out] at ho; have n0_ := Aside0.mk (hb); have n1_ := Aside0.mk (ho); clear HB; clear HO272; have HB := n0_; have HO275 := n1_; clear n0_ n1_; clear ho hb hg hat) | ((with_reducible refine gate_builtin (b := .append) (xs := #[.tmp 101, .tmp 109]) rfl ?_); at_builtin; refine Kd.R_append k82 (w0 := w) w.heap.size rfl (.tmp 101) (.tmp 109) 88 82 (.agg #[(.int .u8 0), (.int .i64 0), (.int .i64 0), (.int .i64 0), (.bool false), (.bool false), (.int .i64 0), (.int .i64 0), (.int .i64 0), (.int .i64 0), (.int .i64 0)]) 80 rfl Tryd.underlying88 info82 rfl (by decide) (by omega) v274 y273 (⟨(wrap64 (99 + (wrap64 (8 * x5_3)))) % 256, (⟨4, 0, 4, false, false⟩ : S69), 1, 1, 3, 0, 0⟩ : S82) [.int .u8 ((wrap64 (99 + (wrap64 (8 * x5_3)))) % 256), .int .i64 4, .int .i64 0, .int .i64 4, .bool false, .bool false, .int .i64 1, .int .i64 1, .int .i64 3, .int .i64 0, .int .i64 0] (fun _ => True) (fun _ => False) rfl rfl ?aP (fun _ hk => hk.elim) ?aF ?aO ?aB ?aS ?aL ?_; (case aP => exact k82_mkM _ _ _ (⟨(wrap64 (99 + (wrap64 (8 * x5_3)))) % 256, (⟨4, 0, 4, false, false⟩ : S69), 1, 1, 3, 0, 0⟩ : S82)); (case aB => exact b_now); (case aF => exact (fun _ _ => trivial)); (case aO => exact (by (with_reducible repeat (first | apply Kd.R_alloc | apply Kd.R_drewN | apply Kd.R_drew)); exact HO275.out)); (case aS => exact (below_size b_now)); (case aL => have := LMc22.out; omega); intro v277 w25 ho hb hg hat; rw [← Ny276.out] at ho; have n0_ := Aside0.mk (hb); have n1_ := Aside0.mk (ho); clear HB; clear HO275; have HB := n0_; have HO278 := n1_; clear n0_ n1_; clear ho hb hg hat))
              go_roundg k3
              case measure => have := HK1.out; have := HK2.out; have := HK3.out; omega
              case rel => exact ⟨(y276), (wrap64 (x5_3 + 1)), eq_now, H', ⟨by have := HK1.out; have := HK2.out; have := HK3.out; omega⟩, ⟨by (with_reducible repeat (first | apply Kd.R_alloc | apply Kd.R_drewN | apply Kd.R_drew)); exact HO278.out⟩, ⟨b_now⟩⟩
             ·rw [if_neg c22] at H
              exact absurd H (by simp)
            ·rw [if_neg c21] at H
             exact absurd H (by simp)
           ·rw [if_neg c20] at H
            exact absurd H (by simp)
          ·rw [if_neg c19] at H
           have c19b0 : (x5_3 == 0) = false := beq_eq_false_iff_ne.mpr c19
           have c19b1 : (x5_3 != 0) = true := bne_iff_ne.mpr c19
           by_cases c26 : x5_3 = 1
           ·rw [if_pos c26] at H
            have c26b0 : (x5_3 == 1) = true := beq_iff_eq.mpr c26
            have c26b1 : (x5_3 != 1) = false := bne_eq_false_iff_eq.mpr c26
            clear c26
            by_cases c27 : x1_3.length < 1759218604441
            ·rw [if_pos c27] at H
             have LMc27 := Aside0.mk c27
             clear c27
             obtain ⟨y279, hy279⟩ : ∃ y_ : List (S82), y_ = (x1_3 ++ [(⟨(wrap64 (97 + (wrap64 (8 * x5_3)))) % 256, (⟨3, 0, 2, false, false⟩ : S69), 2, 1, 3, 0, 0⟩ : S82)]) := ⟨_, rfl⟩
             replace H : (if y279.length < 1759218604441 then ((some (y279 ++ [(⟨(wrap64 (98 + (wrap64 (8 * x5_3)))) % 256, (⟨5, 0, 2, false, false⟩ : S69), 1, 0, 3, 3, 0⟩ : S82)] : List (S82))).bind fun y282 => (if y282.length < 1759218604441 then (stockaderef02_Rows.l2 k3 (y282 ++ [(⟨(wrap64 (99 + (wrap64 (8 * x5_3)))) % 256, (⟨4, 0, 2, false, false⟩ : S69), 1, 1, 3, 0, 0⟩ : S82)]) (wrap64 (x5_3 + 1))) else (none))) else (none)) = some r := by first | (rw [hy279]; with_reducible exact H) | (have H2_ := (Option.bind_some _ _).symm.trans H; rw [hy279]; with_reducible exact H2_) | (have H2_ := (Option.bind_some _ _).symm.trans H; with_reducible exact H2_) | with_reducible exact H | (rw [hy279]; exact H) | exact H
             have Ny279 := Aside0.mk hy279
             clear hy279
             by_cases c28 : y279.length < 1759218604441
             ·rw [if_pos c28] at H
              have LMc28 := Aside0.mk c28
              clear c28
              obtain ⟨y282, hy282⟩ : ∃ y_ : List (S82), y_ = (y279 ++ [(⟨(wrap64 (98 + (wrap64 (8 * x5_3)))) % 256, (⟨5, 0, 2, false, false⟩ : S69), 1, 0, 3, 3, 0⟩ : S82)]) := ⟨_, rfl⟩
              replace H : (if y282.length < 1759218604441 then (stockaderef02_Rows.l2 k3 (y282 ++ [(⟨(wrap64 (99 + (wrap64 (8 * x5_3)))) % 256, (⟨4, 0, 2, false, false⟩ : S69), 1, 1, 3, 0, 0⟩ : S82)]) (wrap64 (x5_3 + 1))) else (none)) = some r := by first | (rw [hy282]; with_reducible exact H) | (have H2_ := (Option.bind_some _ _).symm.trans H; rw [hy282]; with_reducible exact H2_) | (have H2_ := (Option.bind_some _ _).symm.trans H; with_reducible exact H2_) | with_reducible exact H | (rw [hy282]; exact H) | exact H
              have Ny282 := Aside0.mk hy282
              clear hy282
              by_cases c29 : y282.length < 1759218604441
              ·rw [if_pos c29] at H
               have LMc29 := Aside0.mk c29
               clear c29
               obtain ⟨y285, hy285⟩ : ∃ y_ : List (S82), y_ = (y282 ++ [(⟨(wrap64 (99 + (wrap64 (8 * x5_3)))) % 256, (⟨4, 0, 2, false, false⟩ : S69), 1, 1, 3, 0, 0⟩ : S82)]) := ⟨_, rfl⟩
               replace H : (stockaderef02_Rows.l2 k3 y285 (wrap64 (x5_3 + 1))) = some r := by first | (rw [hy285]; with_reducible exact H) | (have H2_ := (Option.bind_some _ _).symm.trans H; rw [hy285]; with_reducible exact H2_) | (have H2_ := (Option.bind_some _ _).symm.trans H; with_reducible exact H2_) | with_reducible exact H | (rw [hy285]; exact H) | exact H
               have Ny285 := Aside0.mk hy285
               clear hy285
               have H' := Aside0.mk H
               clear H
               go_wp2_with (first | ((with_reducible refine gate_builtin (b := .append) (xs := #[.tmp 81, .tmp 89]) rfl ?_); at_builtin; refine Kd.R_append k82 (w0 := w) w.heap.size rfl (.tmp 81) (.tmp 89) 88 82 (.agg #[(.int .u8 0), (.int .i64 0), (.int .i64 0), (.int .i64 0), (.bool false), (.bool false), (.int .i64 0), (.int .i64 0), (.int .i64 0), (.int .i64 0), (.int .i64 0)]) 80 rfl Tryd.underlying88 info82 rfl (by decide) (by omega) u1 x1_3 (⟨(wrap64 (97 + (wrap64 (8 * x5_3)))) % 256, (⟨3, 0, 2, false, false⟩ : S69), 2, 1, 3, 0, 0⟩ : S82) [.int .u8 ((wrap64 (97 + (wrap64 (8 * x5_3)))) % 256), .int .i64 3, .int .i64 0, .int .i64 2, .bool false, .bool false, .int .i64 2, .int .i64 1, .int .i64 3, .int .i64 0, .int .i64 0] (fun _ => True) (fun _ => False) rfl rfl ?aP (fun _ hk => hk.elim) ?aF ?aO ?aB ?aS ?aL ?_; (case aP => exact k82_mkM _ _ _ (⟨(wrap64 (97 + (wrap64 (8 * x5_3)))) % 256, (⟨3, 0, 2, false, false⟩ : S69), 2, 1, 3, 0, 0⟩ : S82)); (case aB => exact b_now); (case aF => exact (fun _ _ => trivial)); (case aO => exact (by (with_reducible repeat (first | apply Kd.R_alloc | apply Kd.R_drewN | apply Kd.R_drew)); exact HO_1.out)); (case aS => exact (below_size b_now)); (case aL => have := LMc27.out; omega); intro v280 w30 ho hb hg hat; rw [← Ny279.out] at ho; have n0_ := Aside0.mk (hb); have n1_ := Aside0.mk (ho); clear HB; clear HO_1; have HB := n0_; have HO281 := n1_; clear n0_ n1_; clear ho hb hg hat) | ((with_reducible refine gate_builtin (b := .append) (xs := #[.tmp 91, .tmp 99]) rfl ?_); at_builtin; refine Kd.R_append k82 (w0 := w) w.heap.size rfl (.tmp 91) (.tmp 99) 88 82 (.agg #[(.int .u8 0), (.int .i64 0), (.int .i64 0), (.int .i64 0), (.bool false), (.bool false), (.int .i64 0), (.int .i64 0), (.int .i64 0), (.int .i64 0), (.int .i64 0)]) 80 rfl Tryd.underlying88 info82 rfl (by decide) (by omega) v280 y279 (⟨(wrap64 (98 + (wrap64 (8 * x5_3)))) % 256, (⟨5, 0, 2, false, false⟩ : S69), 1, 0, 3, 3, 0⟩ : S82) [.int .u8 ((wrap64 (98 + (wrap64 (8 * x5_3)))) % 256), .int .i64 5, .int .i64 0, .int .i64 2, .bool false, .bool false, .int .i64 1, .int .i64 0, .int .i64 3, .int .i64 3, .int .i64 0] (fun _ => True) (fun _ => False) rfl rfl ?aP (fun _ hk => hk.elim) ?aF ?aO ?aB ?aS ?aL ?_; (case aP => exact k82_mkM _ _ _ (⟨(wrap64 (98 + (wrap64 (8 * x5_3)))) % 256, (⟨5, 0, 2, false, false⟩ : S69), 1, 0, 3, 3, 0⟩ : S82)); (case aB => exact b_now); (case aF => exact (fun _ _ => trivial)); (case aO => exact (by (with_reducible repeat (first | apply Kd.R_alloc | apply Kd.R_drewN | apply Kd.R_drew)); exact HO281.out)); (case aS => exact (below_size b_now)); (case aL => have := LMc28.out; omega); intro v283 w31 ho hb hg hat; rw [← Ny282.out] at ho; have n0_ := Aside0.mk (hb); have n1_ := Aside0.mk (ho); clear HB; clear HO281; have HB := n0_; have HO284 := n1_; clear n0_ n1_; clear ho hb hg hat) | ((with_reducible refine gate_builtin (b := .append) (xs := #[.tmp 101, .tmp 109]) rfl ?_); at_builtin; refine Kd.R_append k82 (w0 := w) w.heap.size rfl (.tmp 101) (.tmp 109) 88 82 (.agg #[(.int .u8 0), (.int .i64 0), (.int .i64 0), (.int .i64 0), (.bool false), (.bool false), (.int .i64 0), (.int .i64 0), (.int .i64 0), (.int .i64 0), (.int .i64 0)]) 80 rfl Tryd.underlying88 info82 rfl (by decide) (by omega) v283 y282 (⟨(wrap64 (99 + (wrap64 (8 * x5_3)))) % 256, (⟨4, 0, 2, false, false⟩ : S69), 1, 1, 3, 0, 0⟩ : S82) [.int .u8 ((wrap64 (99 + (wrap64 (8 * x5_3)))) % 256), .int .i64 4, .int .i64 0, .int .i64 2, .bool false, .bool false, .int .i64 1, .int .i64 1, .int .i64 3, .int .i64 0, .int .i64 0] (fun _ => True) (fun _ => False) rfl rfl ?aP (fun _ hk => hk.elim) ?aF ?aO ?aB ?aS ?aL ?_; (case aP => exact k82_mkM _ _ _ (⟨(wrap64 (99 + (wrap64 (8 * x5_3)))) % 256, (⟨4, 0, 2, false, false⟩ : S69), 1, 1, 3, 0, 0⟩ : S82)); (case aB => exact b_now); (case aF => exact (fun _ _ => trivial)); (case aO => exact (by (with_reducible repeat (first | apply Kd.R_alloc | apply Kd.R_drewN | apply Kd.R_drew)); exact HO284.out)); (case aS => exact (below_size b_now)); (case aL => have := LMc29.out; omega); intro v286 w32 ho hb hg hat; rw [← Ny285.out] at ho; have n0_ := Aside0.mk (hb); have n1_ := Aside0.mk (ho); clear HB; clear HO284; have HB := n0_; have HO287 := n1_; clear n0_ n1_; clear ho hb hg hat))
               go_roundg k3
               case measure => have := HK1.out; have := HK2.out; have := HK3.out; omega
               case rel => exact ⟨(y285), (wrap64 (x5_3 + 1)), eq_now, H', ⟨by have := HK1.out; have := HK2.out; have := HK3.out; omega⟩, ⟨by (with_reducible repeat (first | apply Kd.R_alloc | apply Kd.R_drewN | apply Kd.R_drew)); exact HO287.out⟩, ⟨b_now⟩⟩
              ·rw [if_neg c29] at H
               exact absurd H (by simp)
             ·rw [if_neg c28] at H
              exact absurd H (by simp)
            ·rw [if_neg c27] at H
             exact absurd H (by simp)
           ·rw [if_neg c26] at H
            have c26b0 : (x5_3 == 1) = false := beq_eq_false_iff_ne.mpr c26
            have c26b1 : (x5_3 != 1) = true := bne_iff_ne.mpr c26
            by_cases c33 : x5_3 = 2
            ·rw [if_pos c33] at H
             have c33b0 : (x5_3 == 2) = true := beq_iff_eq.mpr c33
             have c33b1 : (x5_3 != 2) = false := bne_eq_false_iff_eq.mpr c33
             clear c33
             by_cases c34 : x1_3.length < 1759218604441
             ·rw [if_pos c34] at H
              have LMc34 := Aside0.mk c34
              clear c34
              obtain ⟨y288, hy288⟩ : ∃ y_ : List (S82), y_ = (x1_3 ++ [(⟨(wrap64 (97 + (wrap64 (8 * x5_3)))) % 256, (⟨3, 0, 1, false, false⟩ : S69), 2, 1, 3, 0, 0⟩ : S82)]) := ⟨_, rfl⟩
              replace H : (if y288.length < 1759218604441 then ((some (y288 ++ [(⟨(wrap64 (98 + (wrap64 (8 * x5_3)))) % 256, (⟨5, 0, 1, false, false⟩ : S69), 1, 0, 3, 3, 0⟩ : S82)] : List (S82))).bind fun y291 => (if y291.length < 1759218604441 then (stockaderef02_Rows.l2 k3 (y291 ++ [(⟨(wrap64 (99 + (wrap64 (8 * x5_3)))) % 256, (⟨4, 0, 1, false, false⟩ : S69), 1, 1, 3, 0, 0⟩ : S82)]) (wrap64 (x5_3 + 1))) else (none))) else (none)) = some r := by first | (rw [hy288]; with_reducible exact H) | (have H2_ := (Option.bind_some _ _).symm.trans H; rw [hy288]; with_reducible exact H2_) | (have H2_ := (Option.bind_some _ _).symm.trans H; with_reducible exact H2_) | with_reducible exact H | (rw [hy288]; exact H) | exact H
              have Ny288 := Aside0.mk hy288
              clear hy288
              by_cases c35 : y288.length < 1759218604441
              ·rw [if_pos c35] at H
               have LMc35 := Aside0.mk c35
               clear c35
               obtain ⟨y291, hy291⟩ : ∃ y_ : List (S82), y_ = (y288 ++ [(⟨(wrap64 (98 + (wrap64 (8 * x5_3)))) % 256, (⟨5, 0, 1, false, false⟩ : S69), 1, 0, 3, 3, 0⟩ : S82)]) := ⟨_, rfl⟩
               replace H : (if y291.length < 1759218604441 then (stockaderef02_Rows.l2 k3 (y291 ++ [(⟨(wrap64 (99 + (wrap64 (8 * x5_3)))) % 256, (⟨4, 0, 1, false, false⟩ : S69), 1, 1, 3, 0, 0⟩ : S82)]) (wrap64 (x5_3 + 1))) else (none)) = some r := by first | (rw [hy291]; with_reducible exact H) | (have H2_ := (Option.bind_some _ _).symm.trans H; rw [hy291]; with_reducible exact H2_) | (have H2_ := (Option.bind_some _ _).symm.trans H; with_reducible exact H2_) | with_reducible exact H | (rw [hy291]; exact H) | exact H
               have Ny291 := Aside0.mk hy291
               clear hy291
               by_cases c36 : y291.length < 1759218604441
               ·rw [if_pos c36] at H
                have LMc36 := Aside0.mk c36
                clear c36
                obtain ⟨y294, hy294⟩ : ∃ y_ : List (S82), y_ = (y291 ++ [(⟨(wrap64 (99 + (wrap64 (8 * x5_3)))) % 256, (⟨4, 0, 1, false, false⟩ : S69), 1, 1, 3, 0, 0⟩ : S82)]) := ⟨_, rfl⟩
                replace H : (stockaderef02_Rows.l2 k3 y294 (wrap64 (x5_3 + 1))) = some r := by first | (rw [hy294]; with_reducible exact H) | (have H2_ := (Option.bind_some _ _).symm.trans H; rw [hy294]; with_reducible exact H2_) | (have H2_ := (Option.bind_some _ _).symm.trans H; with_reducible exact H2_) | with_reducible exact H | (rw [hy294]; exact H) | exact H
                have Ny294 := Aside0.mk hy294
                clear hy294
                have H' := Aside0.mk H
                clear H
                go_wp2_with (first | ((with_reducible refine gate_builtin (b := .append) (xs := #[.tmp 81, .tmp 89]) rfl ?_); at_builtin; refine Kd.R_append k82 (w0 := w) w.heap.size rfl (.tmp 81) (.tmp 89) 88 82 (.agg #[(.int .u8 0), (.int .i64 0), (.int .i64 0), (.int .i64 0), (.bool false), (.bool false), (.int .i64 0), (.int .i64 0), (.int .i64 0), (.int .i64 0), (.int .i64 0)]) 80 rfl Tryd.underlying88 info82 rfl (by decide) (by omega) u1 x1_3 (⟨(wrap64 (97 + (wrap64 (8 * x5_3)))) % 256, (⟨3, 0, 1, false, false⟩ : S69), 2, 1, 3, 0, 0⟩ : S82) [.int .u8 ((wrap64 (97 + (wrap64 (8 * x5_3)))) % 256), .int .i64 3, .int .i64 0, .int .i64 1, .bool false, .bool false, .int .i64 2, .int .i64 1, .int .i64 3, .int .i64 0, .int .i64 0] (fun _ => True) (fun _ => False) rfl rfl ?aP (fun _ hk => hk.elim) ?aF ?aO ?aB ?aS ?aL ?_; (case aP => exact k82_mkM _ _ _ (⟨(wrap64 (97 + (wrap64 (8 * x5_3)))) % 256, (⟨3, 0, 1, false, false⟩ : S69), 2, 1, 3, 0, 0⟩ : S82)); (case aB => exact b_now); (case aF => exact (fun _ _ => trivial)); (case aO => exact (by (with_reducible repeat (first | apply Kd.R_alloc | apply Kd.R_drewN | apply Kd.R_drew)); exact HO_1.out)); (case aS => exact (below_size b_now)); (case aL => have := LMc34.out; omega); intro v289 w37 ho hb hg hat; rw [← Ny288.out] at ho; have n0_ := Aside0.mk (hb); have n1_ := Aside0.mk (ho); clear HB; clear HO_1; have HB := n0_; have HO290 := n1_; clear n0_ n1_; clear ho hb hg hat) | ((with_reducible refine gate_builtin (b := .append) (xs := #[.tmp 91, .tmp 99]) rfl ?_); at_builtin; refine Kd.R_append k82 (w0 := w) w.heap.size rfl (.tmp 91) (.tmp 99) 88 82 (.agg #[(.int .u8 0), (.int .i64 0), (.int .i64 0), (.int .i64 0), (.bool false), (.bool false), (.int .i64 0), (.int .i64 0), (.int .i64 0), (.int .i64 0), (.int .i64 0)]) 80 rfl Tryd.underlying88 info82 rfl (by decide) (by omega) v289 y288 (⟨(wrap64 (98 + (wrap64 (8 * x5_3)))) % 256, (⟨5, 0, 1, false, false⟩ : S69), 1, 0, 3, 3, 0⟩ : S82) [.int .u8 ((wrap64 (98 + (wrap64 (8 * x5_3)))) % 256), .int .i64 5, .int .i64 0, .int .i64 1, .bool false, .bool false, .int .i64 1, .int .i64 0, .int .i64 3, .int .i64 3, .int .i64 0] (fun _ => True) (fun _ => False) rfl rfl ?aP (fun _ hk => hk.elim) ?aF ?aO ?aB ?aS ?aL ?_; (case aP => exact k82_mkM _ _ _ (⟨(wrap64 (98 + (wrap64 (8 * x5_3)))) % 256, (⟨5, 0, 1, false, false⟩ : S69), 1, 0, 3, 3, 0⟩ : S82)); (case aB => exact b_now); (case aF => exact (fun _ _ => trivial)); (case aO => exact (by (with_reducible repeat (first | apply Kd.R_alloc | apply Kd.R_drewN | apply Kd.R_drew)); exact HO290.out)); (case aS => exact (below_size b_now)); (case aL => have := LMc35.out; omega); intro v292 w38 ho hb hg hat; rw [← Ny291.out] at ho; have n0_ := Aside0.mk (hb); have n1_ := Aside0.mk (ho); clear HB; clear HO290; have HB := n0_; have HO293 := n1_; clear n0_ n1_; clear ho hb hg hat) | ((with_reducible refine gate_builtin (b := .append) (xs := #[.tmp 101, .tmp 109]) rfl ?_); at_builtin; refine Kd.R_append k82 (w0 := w) w.heap.size rfl (.tmp 101) (.tmp 109) 88 82 (.agg #[(.int .u8 0), (.int .i64 0), (.int .i64 0), (.int .i64 0), (.bool false), (.bool false), (.int .i64 0), (.int .i64 0), (.int .i64 0), (.int .i64 0), (.int .i64 0)]) 80 rfl Tryd.underlying88 info82 rfl (by decide) (by omega) v292 y291 (⟨(wrap64 (99 + (wrap64 (8 * x5_3)))) % 256, (⟨4, 0, 1, false, false⟩ : S69), 1, 1, 3, 0, 0⟩ : S82) [.int .u8 ((wrap64 (99 + (wrap64 (8 * x5_3)))) % 256), .int .i64 4, .int .i64 0, .int .i64 1, .bool false, .bool false, .int .i64 1, .int .i64 1, .int .i64 3, .int .i64 0, .int .i64 0] (fun _ => True) (fun _ => False) rfl rfl ?aP (fun _ hk => hk.elim) ?aF ?aO ?aB ?aS ?aL ?_; (case aP => exact k82_mkM _ _ _ (⟨(wrap64 (99 + (wrap64 (8 * x5_3)))) % 256, (⟨4, 0, 1, false, false⟩ : S69), 1, 1, 3, 0, 0⟩ : S82)); (case aB => exact b_now); (case aF => exact (fun _ _ => trivial)); (case aO => exact (by (with_reducible repeat (first | apply Kd.R_alloc | apply Kd.R_drewN | apply Kd.R_drew)); exact HO293.out)); (case aS => exact (below_size b_now)); (case aL => have := LMc36.out; omega); intro v295 w39 ho hb hg hat; rw [← Ny294.out] at ho; have n0_ := Aside0.mk (hb); have n1_ := Aside0.mk (ho); clear HB; clear HO293; have HB := n0_; have HO296 := n1_; clear n0_ n1_; clear ho hb hg hat))
                go_roundg k3
                case measure => have := HK1.out; have := HK2.out; have := HK3.out; omega
                case rel => exact ⟨(y294), (wrap64 (x5_3 + 1)), eq_now, H', ⟨by have := HK1.out; have := HK2.out; have := HK3.out; omega⟩, ⟨by (with_reducible repeat (first | apply Kd.R_alloc | apply Kd.R_drewN | apply Kd.R_drew)); exact HO296.out⟩, ⟨b_now⟩⟩
               ·rw [if_neg c36] at H
                exact absurd H (by simp)
              ·rw [if_neg c35] at H
               exact absurd H (by simp)
             ·rw [if_neg c34] at H
              exact absurd H (by simp)
            ·rw [if_neg c33] at H
             have c33b0 : (x5_3 == 2) = false := beq_eq_false_iff_ne.mpr c33
             have c33b1 : (x5_3 != 2) = true := bne_iff_ne.mpr c33
             by_cases c40 : x1_3.length < 1759218604441
             ·rw [if_pos c40] at H
              have LMc40 := Aside0.mk c40
              clear c40
              obtain ⟨y297, hy297⟩ : ∃ y_ : List (S82), y_ = (x1_3 ++ [(⟨(wrap64 (97 + (wrap64 (8 * x5_3)))) % 256, (⟨3, 0, 8, false, false⟩ : S69), 2, 1, 3, 0, 0⟩ : S82)]) := ⟨_, rfl⟩
              replace H : (if y297.length < 1759218604441 then ((some (y297 ++ [(⟨(wrap64 (98 + (wrap64 (8 * x5_3)))) % 256, (⟨5, 0, 8, false, false⟩ : S69), 1, 0, 3, 3, 0⟩ : S82)] : List (S82))).bind fun y300 => (if y300.length < 1759218604441 then (stockaderef02_Rows.l2 k3 (y300 ++ [(⟨(wrap64 (99 + (wrap64 (8 * x5_3)))) % 256, (⟨4, 0, 8, false, false⟩ : S69), 1, 1, 3, 0, 0⟩ : S82)]) (wrap64 (x5_3 + 1))) else (none))) else (none)) = some r := by first | (rw [hy297]; with_reducible exact H) | (have H2_ := (Option.bind_some _ _).symm.trans H; rw [hy297]; with_reducible exact H2_) | (have H2_ := (Option.bind_some _ _).symm.trans H; with_reducible exact H2_) | with_reducible exact H | (rw [hy297]; exact H) | exact H
              have Ny297 := Aside0.mk hy297
              clear hy297
              by_cases c41 : y297.length < 1759218604441
              ·rw [if_pos c41] at H
               have LMc41 := Aside0.mk c41
               clear c41
               obtain ⟨y300, hy300⟩ : ∃ y_ : List (S82), y_ = (y297 ++ [(⟨(wrap64 (98 + (wrap64 (8 * x5_3)))) % 256, (⟨5, 0, 8, false, false⟩ : S69), 1, 0, 3, 3, 0⟩ : S82)]) := ⟨_, rfl⟩
               replace H : (if y300.length < 1759218604441 then (stockaderef02_Rows.l2 k3 (y300 ++ [(⟨(wrap64 (99 + (wrap64 (8 * x5_3)))) % 256, (⟨4, 0, 8, false, false⟩ : S69), 1, 1, 3, 0, 0⟩ : S82)]) (wrap64 (x5_3 + 1))) else (none)) = some r := by first | (rw [hy300]; with_reducible exact H) | (have H2_ := (Option.bind_some _ _).symm.trans H; rw [hy300]; with_reducible exact H2_) | (have H2_ := (Option.bind_some _ _).symm.trans H; with_reducible exact H2_) | with_reducible exact H | (rw [hy300]; exact H) | exact H
               have Ny300 := Aside0.mk hy300
               clear hy300
               by_cases c42 : y300.length < 1759218604441
               ·rw [if_pos c42] at H
                have LMc42 := Aside0.mk c42
                clear c42
                obtain ⟨y303, hy303⟩ : ∃ y_ : List (S82), y_ = (y300 ++ [(⟨(wrap64 (99 + (wrap64 (8 * x5_3)))) % 256, (⟨4, 0, 8, false, false⟩ : S69), 1, 1, 3, 0, 0⟩ : S82)]) := ⟨_, rfl⟩
                replace H : (stockaderef02_Rows.l2 k3 y303 (wrap64 (x5_3 + 1))) = some r := by first | (rw [hy303]; with_reducible exact H) | (have H2_ := (Option.bind_some _ _).symm.trans H; rw [hy303]; with_reducible exact H2_) | (have H2_ := (Option.bind_some _ _).symm.trans H; with_reducible exact H2_) | with_reducible exact H | (rw [hy303]; exact H) | exact H
                have Ny303 := Aside0.mk hy303
                clear hy303
                have H' := Aside0.mk H
                clear H
                go_wp2_with (first | ((with_reducible refine gate_builtin (b := .append) (xs := #[.tmp 81, .tmp 89]) rfl ?_); at_builtin; refine Kd.R_append k82 (w0 := w) w.heap.size rfl (.tmp 81) (.tmp 89) 88 82 (.agg #[(.int .u8 0), (.int .i64 0), (.int .i64 0), (.int .i64 0), (.bool false), (.bool false), (.int .i64 0), (.int .i64 0), (.int .i64 0), (.int .i64 0), (.int .i64 0)]) 80 rfl Tryd.underlying88 info82 rfl (by decide) (by omega) u1 x1_3 (⟨(wrap64 (97 + (wrap64 (8 * x5_3)))) % 256, (⟨3, 0, 8, false, false⟩ : S69), 2, 1, 3, 0, 0⟩ : S82) [.int .u8 ((wrap64 (97 + (wrap64 (8 * x5_3)))) % 256), .int .i64 3, .int .i64 0, .int .i64 8, .bool false, .bool false, .int .i64 2, .int .i64 1, .int .i64 3, .int .i64 0, .int .i64 0] (fun _ => True) (fun _ => False) rfl rfl ?aP (fun _ hk => hk.elim) ?aF ?aO ?aB ?aS ?aL ?_; (case aP => exact k82_mkM _ _ _ (⟨(wrap64 (97 + (wrap64 (8 * x5_3)))) % 256, (⟨3, 0, 8, false, false⟩ : S69), 2, 1, 3, 0, 0⟩ : S82)); (case aB => exact b_now); (case aF => exact (fun _ _ => trivial)); (case aO => exact (by (with_reducible repeat (first | apply Kd.R_alloc | apply Kd.R_drewN | apply Kd.R_drew)); exact HO_1.out)); (case aS => exact (below_size b_now)); (case aL => have := LMc40.out; omega); intro v298 w43 ho hb hg hat; rw [← Ny297.out] at ho; have n0_ := Aside0.mk (hb); have n1_ := Aside0.mk (ho); clear HB; clear HO_1; have HB := n0_; have HO299 := n1_; clear n0_ n1_; clear ho hb hg hat) | ((with_reducible refine gate_builtin (b := .append) (xs := #[.tmp 91, .tmp 99]) rfl ?_); at_builtin; refine Kd.R_append k82 (w0 := w) w.heap.size rfl (.tmp 91) (.tmp 99) 88 82 (.agg #[(.int .u8 0), (.int .i64 0), (.int .i64 0), (.int .i64 0), (.bool false), (.bool false), (.int .i64 0), (.int .i64 0), (.int .i64 0), (.int .i64 0), (.int .i64 0)]) 80 rfl Tryd.underlying88 info82 rfl (by decide) (by omega) v298 y297 (⟨(wrap64 (98 + (wrap64 (8 * x5_3)))) % 256, (⟨5, 0, 8, false, false⟩ : S69), 1, 0, 3, 3, 0⟩ : S82) [.int .u8 ((wrap64 (98 + (wrap64 (8 * x5_3)))) % 256), .int .i64 5, .int .i64 0, .int .i64 8, .bool false, .bool false, .int .i64 1, .int .i64 0, .int .i64 3, .int .i64 3, .int .i64 0] (fun _ => True) (fun _ => False) rfl rfl ?aP (fun _ hk => hk.elim) ?aF ?aO ?aB ?aS ?aL ?_; (case aP => exact k82_mkM _ _ _ (⟨(wrap64 (98 + (wrap64 (8 * x5_3)))) % 256, (⟨5, 0, 8, false, false⟩ : S69), 1, 0, 3, 3, 0⟩ : S82)); (case aB => exact b_now); (case aF => exact (fun _ _ => trivial)); (case aO => exact (by (with_reducible repeat (first | apply Kd.R_alloc | apply Kd.R_drewN | apply Kd.R_drew)); exact HO299.out)); (case aS => exact (below_size b_now)); (case aL => have := LMc41.out; omega); intro v301 w44 ho hb hg hat; rw [← Ny300.out] at ho; have n0_ := Aside0.mk (hb); have n1_ := Aside0.mk (ho); clear HB; clear HO299; have HB := n0_; have HO302 := n1_; clear n0_ n1_; clear ho hb hg hat) | ((with_reducible refine gate_builtin (b := .append) (xs := #[.tmp 101, .tmp 109]) rfl ?_); at_builtin; refine Kd.R_append k82 (w0 := w) w.heap.size rfl (.tmp 101) (.tmp 109) 88 82 (.agg #[(.int .u8 0), (.int .i64 0), (.int .i64 0), (.int .i64 0), (.bool false), (.bool false), (.int .i64 0), (.int .i64 0), (.int .i64 0), (.int .i64 0), (.int .i64 0)]) 80 rfl Tryd.underlying88 info82 rfl (by decide) (by omega) v301 y300 (⟨(wrap64 (99 + (wrap64 (8 * x5_3)))) % 256, (⟨4, 0, 8, false, false⟩ : S69), 1, 1, 3, 0, 0⟩ : S82) [.int .u8 ((wrap64 (99 + (wrap64 (8 * x5_3)))) % 256), .int .i64 4, .int .i64 0, .int .i64 8, .bool false, .bool false, .int .i64 1, .int .i64 1, .int .i64 3, .int .i64 0, .int .i64 0] (fun _ => True) (fun _ => False) rfl rfl ?aP (fun _ hk => hk.elim) ?aF ?aO ?aB ?aS ?aL ?_; (case aP => exact k82_mkM _ _ _ (⟨(wrap64 (99 + (wrap64 (8 * x5_3)))) % 256, (⟨4, 0, 8, false, false⟩ : S69), 1, 1, 3, 0, 0⟩ : S82)); (case aB => exact b_now); (case aF => exact (fun _ _ => trivial)); (case aO => exact (by (with_reducible repeat (first | apply Kd.R_alloc | apply Kd.R_drewN | apply Kd.R_drew)); exact HO302.out)); (case aS => exact (below_size b_now)); (case aL => have := LMc42.out; omega); intro v304 w45 ho hb hg hat; rw [← Ny303.out] at ho; have n0_ := Aside0.mk (hb); have n1_ := Aside0.mk (ho); clear HB; clear HO302; have HB := n0_; have HO305 := n1_; clear n0_ n1_; clear ho hb hg hat))
                go_roundg k3
                case measure => have := HK1.out; have := HK2.out; have := HK3.out; omega
                case rel => exact ⟨(y303), (wrap64 (x5_3 + 1)), eq_now, H', ⟨by have := HK1.out; have := HK2.out; have := HK3.out; omega⟩, ⟨by (with_reducible repeat (first | apply Kd.R_alloc | apply Kd.R_drewN | apply Kd.R_drew)); exact HO305.out⟩, ⟨b_now⟩⟩
               ·rw [if_neg c42] at H
                exact absurd H (by simp)
              ·rw [if_neg c41] at H
               exact absurd H (by simp)
             ·rw [if_neg c40] at H
              exact absurd H (by simp)
         ·rw [if_neg c18] at H
          have c18b0 : decide (x5_3 < 4) = false := decide_eq_false c18
          clear c18
          have H' := Aside0.mk H
          clear H
          go_wp2
          go_loopg [1, 7] k3 (fun kq v1 v7 w' => ∃ (x1_4 : List (S82)) (x7_4 : Int), v7 = .int .i64 x7_4 ∧ Aside0 (stockaderef02_Rows.l3 kq x1_4 x7_4 = some r) ∧ Aside0 (kq ≤ k3) ∧ Aside0 (Kd.R k82 82 w' w.heap.size (fun _ => True) v1 x1_4) ∧ Aside0 (Below w.heap.size w w'))
          case atStart => exact ⟨(x1_3), (1), eq_now, H', ⟨Nat.le_refl _⟩, ⟨by (with_reducible repeat (first | apply Kd.R_alloc | apply Kd.R_drewN | apply Kd.R_drew)); exact HO_1.out⟩, ⟨b_now⟩⟩
          case round =>
           clear H'
           try clear c1
           try clear c1b0
           try clear c2
           try clear c2b0
           try clear c2b1
           try clear p2
           try clear c3
           try clear c4
           try clear c5
           try clear p6
           try clear c7
           try clear c8
           try clear c9
           try clear c10
           try clear c15
           try clear c15b0
           try clear c16
           try clear c18
           try clear c18b0
           try clear c19
           try clear c19b0
           try clear c19b1
           try clear c20
           try clear c21
           try clear c22
           try clear c26
           try clear c26b0
           try clear c26b1
           try clear c27
           try clear c28
           try clear c29
           try clear c33
           try clear c33b0
           try clear c33b1
           try clear c34
           try clear c35
           try clear c36
           try clear c40
           try clear c41
           try clear c42
           try clear p2
           try clear p6
           obtain ⟨x1_4, x7_4, rfl, HA, HK4, HO_1, HB⟩ := hrel
           cases gk with
           | zero => exact absurd HA.out (by simp [stockaderef02_Rows.l3])
           | succ k4 =>
            have H := HA.out
            clear HA
            simp only [stockaderef02_Rows.l3] at H
            by_cases c46 : x7_4 ≤ 13
            ·rw [if_pos c46] at H
             have c46b0 : decide (x7_4 ≤ 13) = true := decide_eq_true c46
             clear c46
             by_cases c47 : x7_4 = 8
             ·rw [if_pos c47] at H
              have c47b0 : (x7_4 == 8) = true := beq_iff_eq.mpr c47
              have c47b1 : (x7_4 != 8) = false := bne_eq_false_iff_eq.mpr c47
              clear c47
              have H' := Aside0.mk H
              clear H
              go_wp2
              go_roundg k4
              case measure => have := HK1.out; have := HK2.out; have := HK3.out; have := HK4.out; omega
              case rel => exact ⟨(x1_4), (wrap64 (x7_4 + 1)), eq_now, H', ⟨by have := HK1.out; have := HK2.out; have := HK3.out; have := HK4.out; omega⟩, ⟨by (with_reducible repeat (first | apply Kd.R_alloc | apply Kd.R_drewN | apply Kd.R_drew)); exact HO_1.out⟩, ⟨b_now⟩⟩
             ·rw [if_neg c47] at H
              have c47b0 : (x7_4 == 8) = false := beq_eq_false_iff_ne.mpr c47
              have c47b1 : (x7_4 != 8) = true := bne_iff_ne.mpr c47
              by_cases c48 : x7_4 = 9
              ·rw [if_pos c48] at H
               have c48b0 : (x7_4 == 9) = true := beq_iff_eq.mpr c48
               have c48b1 : (x7_4 != 9) = false := bne_eq_false_iff_eq.mpr c48
               clear c48
               have H' := Aside0.mk H
               clear H
               go_wp2
               go_roundg k4
               case measure => have := HK1.out; have := HK2.out; have := HK3.out; have := HK4.out; omega
               case rel => exact ⟨(x1_4), (wrap64 (x7_4 + 1)), eq_now, H', ⟨by have := HK1.out; have := HK2.out; have := HK3.out; have := HK4.out; omega⟩, ⟨by (with_reducible repeat (first | apply Kd.R_alloc | apply Kd.R_drewN | apply Kd.R_drew)); exact HO_1.out⟩, ⟨b_now⟩⟩
              ·rw [if_neg c48] at H
               have c48b0 : (x7_4 == 9) = false := beq_eq_false_iff_ne.mpr c48
               have c48b1 : (x7_4 != 9) = true := bne_iff_ne.mpr c48
               by_cases c49 : x1_4.length < 1759218604441
               ·rw [if_pos c49] at H
                have LMc49 := Aside0.mk c49
                clear c49
                obtain ⟨y306, hy306⟩ : ∃ y_ : List (S82), y_ = (x1_4 ++ [(⟨(wrap64 ((wrap64 (16 * x7_4)) + 5)) % 256, (⟨6, x7_4, 0, true, false⟩ : S69), 1, 0, 3, 3, 0⟩ : S82)]) := ⟨_, rfl⟩
                replace H : (if y306.length < 1759218604441 then ((some (y306 ++ [(⟨(wrap64 ((wrap64 (16 * x7_4)) + 6)) % 256, (⟨6, x7_4, 0, false, false⟩ : S69), 1, 0, 3, 3, 0⟩ : S82)] : List (S82))).bind fun y309 => (if y309.length < 1759218604441 then ((some (y309 ++ [(⟨(wrap64 ((wrap64 (16 * x7_4)) + 13)) % 256, (⟨6, x7_4, 0, true, true⟩ : S69), 1, 1, 3, 0, 0⟩ : S82)] : List (S82))).bind fun y312 => (if y312.length < 1759218604441 then (stockaderef02_Rows.l3 k4 (y312 ++ [(⟨(wrap64 ((wrap64 (16 * x7_4)) + 14)) % 256, (⟨6, x7_4, 0, false, true⟩ : S69), 1, 1, 3, 0, 0⟩ : S82)]) (wrap64 (x7_4 + 1))) else (none))) else (none))) else (none)) = some r := by first | (rw [hy306]; with_reducible exact H) | (have H2_ := (Option.bind_some _ _).symm.trans H; rw [hy306]; with_reducible exact H2_) | (have H2_ := (Option.bind_some _ _).symm.trans H; with_reducible exact H2_) | with_reducible exact H | (rw [hy306]; exact H) | exact H
                have Ny306 := Aside0.mk hy306
                clear hy306
                by_cases c50 : y306.length < 1759218604441
                ·rw [if_pos c50] at H
                 have LMc50 := Aside0.mk c50
                 clear c50
                 obtain ⟨y309, hy309⟩ : ∃ y_ : List (S82), y_ = (y306 ++ [(⟨(wrap64 ((wrap64 (16 * x7_4)) + 6)) % 256, (⟨6, x7_4, 0, false, false⟩ : S69), 1, 0, 3, 3, 0⟩ : S82)]) := ⟨_, rfl⟩
                 replace H : (if y309.length < 1759218604441 then ((some (y309 ++ [(⟨(wrap64 ((wrap64 (16 * x7_4)) + 13)) % 256, (⟨6, x7_4, 0, true, true⟩ : S69), 1, 1, 3, 0, 0⟩ : S82)] : List (S82))).bind fun y312 => (if y312.length < 1759218604441 then (stockaderef02_Rows.l3 k4 (y312 ++ [(⟨(wrap64 ((wrap64 (16 * x7_4)) + 14)) % 256, (⟨6, x7_4, 0, false, true⟩ : S69), 1, 1, 3, 0, 0⟩ : S82)]) (wrap64 (x7_4 + 1))) else (none))) else (none)) = some r := by first | (rw [hy309]; with_reducible exact H) | (have H2_ := (Option.bind_some _ _).symm.trans H; rw [hy309]; with_reducible exact H2_) | (have H2_ := (Option.bind_some _ _).symm.trans H; with_reducible exact H2_) | with_reducible exact H | (rw [hy309]; exact H) | exact H
                 have Ny309 := Aside0.mk hy309
                 clear hy309
                 by_cases c51 : y309.length < 1759218604441
                 ·rw [if_pos c51] at H
                  have LMc51 := Aside0.mk c51
                  clear c51
                  obtain ⟨y312, hy312⟩ : ∃ y_ : List (S82), y_ = (y309 ++ [(⟨(wrap64 ((wrap64 (16 * x7_4)) + 13)) % 256, (⟨6, x7_4, 0, true, true⟩ : S69), 1, 1, 3, 0, 0⟩ : S82)]) := ⟨_, rfl⟩
                  replace H : (if y312.length < 1759218604441 then (stockaderef02_Rows.l3 k4 (y312 ++ [(⟨(wrap64 ((wrap64 (16 * x7_4)) + 14)) % 256, (⟨6, x7_4, 0, false, true⟩ : S69), 1, 1, 3, 0, 0⟩ : S82)]) (wrap64 (x7_4 + 1))) else (none)) = some r := by first | (rw [hy312]; with_reducible exact H) | (have H2_ := (Option.bind_some _ _).symm.trans H; rw [hy312]; with_reducible exact H2_) | (have H2_ := (Option.bind_some _ _).symm.trans H; with_reducible exact H2_) | with_reducible exact H | (rw [hy312]; exact H) | exact H
                  have Ny312 := Aside0.mk hy312
                  clear hy312
                  by_cases c52 : y312.length < 1759218604441
                  ·rw [if_pos c52] at H
                   have LMc52 := Aside0.mk c52
                   clear c52
                   obtain ⟨y315, hy315⟩ : ∃ y_ : List (S82), y_ = (y312 ++ [(⟨(wrap64 ((wrap64 (16 * x7_4)) + 14)) % 256, (⟨6, x7_4, 0, false, true⟩ : S69), 1, 1, 3, 0, 0⟩ : S82)]) := ⟨_, rfl⟩
                   replace H : (stockaderef02_Rows.l3 k4 y315 (wrap64 (x7_4 + 1))) = some r := by first | (rw [hy315]; with_reducible exact H) | (have H2_ := (Option.bind_some _ _).symm.trans H; rw [hy315]; with_reducible exact H2_) | (have H2_ := (Option.bind_some _ _).symm.trans H; with_reducible exact H2_) | with_reducible exact H | (rw [hy315]; exact H) | exact H
                   have Ny315 := Aside0.mk hy315
                   clear hy315
                   have H' := Aside0.mk H
                   clear H
                   go_wp2_with (first | ((with_reducible refine gate_builtin (b := .append) (xs := #[.tmp 121, .tmp 129]) rfl ?_); at_builtin; refine Kd.R_append k82 (w0 := w) w.heap.size rfl (.tmp 121) (.tmp 129) 88 82 (.agg #[(.int .u8 0), (.int .i64 0), (.int .i64 0), (.int .i64 0), (.bool false), (.bool false), (.int .i64 0), (.int .i64 0), (.int .i64 0), (.int .i64 0), (.int .i64 0)]) 80 rfl Tryd.underlying88 info82 rfl (by decide) (by omega) u1 x1_4 (⟨(wrap64 ((wrap64 (16 * x7_4)) + 5)) % 256, (⟨6, x7_4, 0, true, false⟩ : S69), 1, 0, 3, 3, 0⟩ : S82) [.int .u8 ((wrap64 ((wrap64 (16 * x7_4)) + 5)) % 256), .int .i64 6, .int .i64 x7_4, .int .i64 0, .bool true, .bool false, .int .i64 1, .int .i64 0, .int .i64 3, .int .i64 3, .int .i64 0] (fun _ => True) (fun _ => False) rfl rfl ?aP (fun _ hk => hk.elim) ?aF ?aO ?aB ?aS ?aL ?_; (case aP => exact k82_mkM _ _ _ (⟨(wrap64 ((wrap64 (16 * x7_4)) + 5)) % 256, (⟨6, x7_4, 0, true, false⟩ : S69), 1, 0, 3, 3, 0⟩ : S82)); (case aB => exact b_now); (case aF => exact (fun _ _ => trivial)); (case aO => exact (by (with_reducible repeat (first | apply Kd.R_alloc | apply Kd.R_drewN | apply Kd.R_drew)); exact HO_1.out)); (case aS => exact (below_size b_now)); (case aL => have := LMc49.out; omega); intro v307 w53 ho hb hg hat; rw [← Ny306.out] at ho; have n0_ := Aside0.mk (hb); have n1_ := Aside0.mk (ho); clear HB; clear HO_1; have HB := n0_; have HO308 := n1_; clear n0_ n1_; clear ho hb hg hat) | ((with_reducible refine gate_builtin (b := .append) (xs := #[.tmp 131, .tmp 139]) rfl ?_); at_builtin; refine Kd.R_append k82 (w0 := w) w.heap.size rfl (.tmp 131) (.tmp 139) 88 82 (.agg #[(.int .u8 0), (.int .i64 0), (.int .i64 0), (.int .i64 0), (.bool false), (.bool false), (.int .i64 0), (.int .i64 0), (.int .i64 0), (.int .i64 0), (.int .i64 0)]) 80 rfl Tryd.underlying88 info82 rfl (by decide) (by omega) v307 y306 (⟨(wrap64 ((wrap64 (16 * x7_4)) + 6)) % 256, (⟨6, x7_4, 0, false, false⟩ : S69), 1, 0, 3, 3, 0⟩ : S82) [.int .u8 ((wrap64 ((wrap64 (16 * x7_4)) + 6)) % 256), .int .i64 6, .int .i64 x7_4, .int .i64 0, .bool false, .bool false, .int .i64 1, .int .i64 0, .int .i64 3, .int .i64 3, .int .i64 0] (fun _ => True) (fun _ => False) rfl rfl ?aP (fun _ hk => hk.elim) ?aF ?aO ?aB ?aS ?aL ?_; (case aP => exact k82_mkM _ _ _ (⟨(wrap64 ((wrap64 (16 * x7_4)) + 6)) % 256, (⟨6, x7_4, 0, false, false⟩ : S69), 1, 0, 3, 3, 0⟩ : S82)); (case aB => exact b_now); (case aF => exact (fun _ _ => trivial)); (case aO => exact (by (with_reducible repeat (first | apply Kd.R_alloc | apply Kd.R_drewN | apply Kd.R_drew)); exact HO308.out)); (case aS => exact (below_size b_now)); (case aL => have := LMc50.out; omega); intro v310 w54 ho hb hg hat; rw [← Ny309.out] at ho; have n0_ := Aside0.mk (hb); have n1_ := Aside0.mk (ho); clear HB; clear HO308; have HB := n0_; have HO311 := n1_; clear n0_ n1_; clear ho hb hg hat) | ((with_reducible refine gate_builtin (b := .append) (xs := #[.tmp 141, .tmp 149]) rfl ?_); at_builtin; refine Kd.R_append k82 (w0 := w) w.heap.size rfl (.tmp 141) (.tmp 149) 88 82 (.agg #[(.int .u8 0), (.int .i64 0), (.int .i64 0), (.int .i64 0), (.bool false), (.bool false), (.int .i64 0), (.int .i64 0), (.int .i64 0), (.int .i64 0), (.int .i64 0)]) 80 rfl Tryd.underlying88 info82 rfl (by decide) (by omega) v310 y309 (⟨(wrap64 ((wrap64 (16 * x7_4)) + 13)) % 256, (⟨6, x7_4, 0, true, true⟩ : S69), 1, 1, 3, 0, 0⟩ : S82) [.int .u8 ((wrap64 ((wrap64 (16 * x7_4)) + 13)) % 256), .int .i64 6, .int .i64 x7_4, .int .i64 0, .bool true, .bool true, .int .i64 1, .int .i64 1, .int .i64 3, .int .i64 0, .int .i64 0] (fun _ => True) (fun _ => False) rfl rfl ?aP (fun _ hk => hk.elim) ?aF ?aO ?aB ?aS ?aL ?_; (case aP => exact k82_mkM _ _ _ (⟨(wrap64 ((wrap64 (16 * x7_4)) + 13)) % 256, (⟨6, x7_4, 0, true, true⟩ : S69), 1, 1, 3, 0, 0⟩ : S82)); (case aB => exact b_now); (case aF => exact (fun _ _ => trivial)); (case aO => exact (by (with_reducible repeat (first | apply Kd.R_alloc | apply Kd.R_drewN | apply Kd.R_drew)); exact HO311.out)); (case aS => exact (below_size b_now)); (case aL => have := LMc51.out; omega); intro v313 w55 ho hb hg hat; rw [← Ny312.out] at ho; have n0_ := Aside0.mk (hb); have n1_ := Aside0.mk (ho); clear HB; clear HO311; have HB := n0_; have HO314 := n1_; clear n0_ n1_; clear ho hb hg hat) | ((with_reducible refine gate_builtin (b := .append) (xs := #[.tmp 151, .tmp 159]) rfl ?_); at_builtin; refine Kd.R_append k82 (w0 := w) w.heap.size rfl (.tmp 151) (.tmp 159) 88 82 (.agg #[(.int .u8 0), (.int .i64 0), (.int .i64 0), (.int .i64 0), (.bool false), (.bool false), (.int .i64 0), (.int .i64 0), (.int .i64 0), (.int .i64 0), (.int .i64 0)]) 80 rfl Tryd.underlying88 info82 rfl (by decide) (by omega) v313 y312 (⟨(wrap64 ((wrap64 (16 * x7_4)) + 14)) % 256, (⟨6, x7_4, 0, false, true⟩ : S69), 1, 1, 3, 0, 0⟩ : S82) [.int .u8 ((wrap64 ((wrap64 (16 * x7_4)) + 14)) % 256), .int .i64 6, .int .i64 x7_4, .int .i64 0, .bool false, .bool true, .int .i64 1, .int .i64 1, .int .i64 3, .int .i64 0, .int .i64 0] (fun _ => True) (fun _ => False) rfl rfl ?aP (fun _ hk => hk.elim) ?aF ?aO ?aB ?aS ?aL ?_; (case aP => exact k82_mkM _ _ _ (⟨(wrap64 ((wrap64 (16 * x7_4)) + 14)) % 256, (⟨6, x7_4, 0, false, true⟩ : S69), 1, 1, 3, 0, 0⟩ : S82)); (case aB => exact b_now); (case aF => exact (fun _ _ => trivial)); (case aO => exact (by (with_reducible repeat (first | apply Kd.R_alloc | apply Kd.R_drewN | apply Kd.R_drew)); exact HO314.out)); (case aS => exact (below_size b_now)); (case aL => have := LMc52.out; omega); intro v316 w56 ho hb hg hat; rw [← Ny315.out] at ho; have n0_ := Aside0.mk (hb); have n1_ := Aside0.mk (ho); clear HB; clear HO314; have HB := n0_; have HO317 := n1_; clear n0_ n1_; clear ho hb hg hat))
                   go_roundg k4
                   case measure => have := HK1.out; have := HK2.out; have := HK3.out; have := HK4.out; omega
                   case rel => exact ⟨(y315), (wrap64 (x7_4 + 1)), eq_now, H', ⟨by have := HK1.out; have := HK2.out; have := HK3.out; have := HK4.out; omega⟩, ⟨by (with_reducible repeat (first | apply Kd.R_alloc | apply Kd.R_drewN | apply Kd.R_drew)); exact HO317.out⟩, ⟨b_now⟩⟩
                  ·rw [if_neg c52] at H
                   exact absurd H (by simp)
                 ·rw [if_neg c51] at H
                  exact absurd H (by simp)
                ·rw [if_neg c50] at H
                 exact absurd H (by simp)
               ·rw [if_neg c49] at H
                exact absurd H (by simp)
            ·rw [if_neg c46] at H
             have c46b0 : decide (x7_4 ≤ 13) = false := decide_eq_false c46
             clear c46
             by_cases c57 : x1_4.length < 1759218604441
             ·rw [if_pos c57] at H
              have LMc57 := Aside0.mk c57
              clear c57
              obtain ⟨y318, hy318⟩ : ∃ y_ : List (S82), y_ = (x1_4 ++ [(⟨5, (⟨7, 0, 0, false, false⟩ : S69), 0, 0, 3, 0, 0⟩ : S82)]) := ⟨_, rfl⟩
              replace H : (if y318.length < 1759218604441 then ((some (y318 ++ [(⟨133, (⟨8, 0, 0, false, false⟩ : S69), 0, 0, 0, 3, 0⟩ : S82)] : List (S82))).bind fun y321 => (if y321.length < 1759218604441 then ((some (y321 ++ [(⟨149, (⟨9, 0, 0, false, false⟩ : S69), 0, 0, 0, 0, 0⟩ : S82)] : List (S82))).bind fun y324 => (if y324.length < 1759218604441 then ((some (y324 ++ [(⟨24, (⟨10, 0, 0, false, false⟩ : S69), 2, 4, 0, 3, 0⟩ : S82)] : List (S82))).bind fun y327 => (if y327.length < 1759218604441 then (some (y327 ++ [(⟨24, (⟨11, 0, 0, false, false⟩ : S69), 2, 4, 0, 3, 1⟩ : S82)])) else (none))) else (none))) else (none))) else (none)) = some r := by first | (rw [hy318]; with_reducible exact H) | (have H2_ := (Option.bind_some _ _).symm.trans H; rw [hy318]; with_reducible exact H2_) | (have H2_ := (Option.bind_some _ _).symm.trans H; with_reducible exact H2_) | with_reducible exact H | (rw [hy318]; exact H) | exact H
              have Ny318 := Aside0.mk hy318
              clear hy318
              by_cases c58 : y318.length < 1759218604441
              ·rw [if_pos c58] at H
               have LMc58 := Aside0.mk c58
               clear c58
               obtain ⟨y321, hy321⟩ : ∃ y_ : List (S82), y_ = (y318 ++ [(⟨133, (⟨8, 0, 0, false, false⟩ : S69), 0, 0, 0, 3, 0⟩ : S82)]) := ⟨_, rfl⟩
               replace H : (if y321.length < 1759218604441 then ((some (y321 ++ [(⟨149, (⟨9, 0, 0, false, false⟩ : S69), 0, 0, 0, 0, 0⟩ : S82)] : List (S82))).bind fun y324 => (if y324.length < 1759218604441 then ((some (y324 ++ [(⟨24, (⟨10, 0, 0, false, false⟩ : S69), 2, 4, 0, 3, 0⟩ : S82)] : List (S82))).bind fun y327 => (if y327.length < 1759218604441 then (some (y327 ++ [(⟨24, (⟨11, 0, 0, false, false⟩ : S69), 2, 4, 0, 3, 1⟩ : S82)])) else (none))) else (none))) else (none)) = some r := by first | (rw [hy321]; with_reducible exact H) | (have H2_ := (Option.bind_some _ _).symm.trans H; rw [hy321]; with_reducible exact H2_) | (have H2_ := (Option.bind_some _ _).symm.trans H; with_reducible exact H2_) | with_reducible exact H | (rw [hy321]; exact H) | exact H
               have Ny321 := Aside0.mk hy321
               clear hy321
               by_cases c59 : y321.length < 1759218604441
               ·rw [if_pos c59] at H
                have LMc59 := Aside0.mk c59
                clear c59
                obtain ⟨y324, hy324⟩ : ∃ y_ : List (S82), y_ = (y321 ++ [(⟨149, (⟨9, 0, 0, false, false⟩ : S69), 0, 0, 0, 0, 0⟩ : S82)]) := ⟨_, rfl⟩
                replace H : (if y324.length < 1759218604441 then ((some (y324 ++ [(⟨24, (⟨10, 0, 0, false, false⟩ : S69), 2, 4, 0, 3, 0⟩ : S82)] : List (S82))).bind fun y327 => (if y327.length < 1759218604441 then (some (y327 ++ [(⟨24, (⟨11, 0, 0, false, false⟩ : S69), 2, 4, 0, 3, 1⟩ : S82)])) else (none))) else (none)) = some r := by first | (rw [hy324]; with_reducible exact H) | (have H2_ := (Option.bind_some _ _).symm.trans H; rw [hy324]; with_reducible exact H2_) | (have H2_ := (Option.bind_some _ _).symm.trans H; with_reducible exact H2_) | with_reducible exact H | (rw [hy324]; exact H) | exact H
                have Ny324 := Aside0.mk hy324
                clear hy324
                by_cases c60 : y324.length < 1759218604441
                ·rw [if_pos c60] at H
                 have LMc60 := Aside0.mk c60
                 clear c60
                 obtain ⟨y327, hy327⟩ : ∃ y_ : List (S82), y_ = (y324 ++ [(⟨24, (⟨10, 0, 0, false, false⟩ : S69), 2, 4, 0, 3, 0⟩ : S82)]) := ⟨_, rfl⟩
                 replace H : (if y327.length < 1759218604441 then (some (y327 ++ [(⟨24, (⟨11, 0, 0, false, false⟩ : S69), 2, 4, 0, 3, 1⟩ : S82)])) else (none)) = some r := by first | (rw [hy327]; with_reducible exact H) | (have H2_ := (Option.bind_some _ _).symm.trans H; rw [hy327]; with_reducible exact H2_) | (have H2_ := (Option.bind_some _ _).symm.trans H; with_reducible exact H2_) | with_reducible exact H | (rw [hy327]; exact H) | exact H
                 have Ny327 := Aside0.mk hy327
                 clear hy327
                 by_cases c61 : y327.length < 1759218604441
                 ·rw [if_pos c61] at H
                  have LMc61 := Aside0.mk c61
                  clear c61
                  obtain ⟨y330, hy330⟩ : ∃ y_ : List (S82), y_ = (y327 ++ [(⟨24, (⟨11, 0, 0, false, false⟩ : S69), 2, 4, 0, 3, 1⟩ : S82)]) := ⟨_, rfl⟩
                  replace H : (some y330) = some r := by first | (rw [hy330]; with_reducible exact H) | (have H2_ := (Option.bind_some _ _).symm.trans H; rw [hy330]; with_reducible exact H2_) | (have H2_ := (Option.bind_some _ _).symm.trans H; with_reducible exact H2_) | with_reducible exact H | (rw [hy330]; exact H) | exact H
                  have Ny330 := Aside0.mk hy330
                  clear hy330
                  obtain rfl := Option.some.inj H
                  go_wp2_with (first | ((with_reducible refine gate_builtin (b := .append) (xs := #[.tmp 161, .tmp 164]) rfl ?_); at_builtin; refine Kd.R_append k82 (w0 := w) w.heap.size rfl (.tmp 161) (.tmp 164) 88 82 (.agg #[(.int .u8 0), (.int .i64 0), (.int .i64 0), (.int .i64 0), (.bool false), (.bool false), (.int .i64 0), (.int .i64 0), (.int .i64 0), (.int .i64 0), (.int .i64 0)]) 80 rfl Tryd.underlying88 info82 rfl (by decide) (by omega) u1 x1_4 (⟨5, (⟨7, 0, 0, false, false⟩ : S69), 0, 0, 3, 0, 0⟩ : S82) [.int .u8 5, .int .i64 7, .int .i64 0, .int .i64 0, .bool false, .bool false, .int .i64 0, .int .i64 0, .int .i64 3, .int .i64 0, .int .i64 0] (fun _ => True) (fun _ => False) rfl rfl ?aP (fun _ hk => hk.elim) ?aF ?aO ?aB ?aS ?aL ?_; (case aP => exact k82_mkM _ _ _ (⟨5, (⟨7, 0, 0, false, false⟩ : S69), 0, 0, 3, 0, 0⟩ : S82)); (case aB => exact b_now); (case aF => exact (fun _ _ => trivial)); (case aO => exact (by (with_reducible repeat (first | apply Kd.R_alloc | apply Kd.R_drewN | apply Kd.R_drew)); exact HO_1.out)); (case aS => exact (below_size b_now)); (case aL => have := LMc57.out; omega); intro v319 w62 ho hb hg hat; rw [← Ny318.out] at ho; have n0_ := Aside0.mk (hb); have n1_ := Aside0.mk (ho); clear HB; clear HO_1; have HB := n0_; have HO320 := n1_; clear n0_ n1_; clear ho hb hg hat) | ((with_reducible refine gate_builtin (b := .append) (xs := #[.tmp 166, .tmp 169]) rfl ?_); at_builtin; refine Kd.R_append k82 (w0 := w) w.heap.size rfl (.tmp 166) (.tmp 169) 88 82 (.agg #[(.int .u8 0), (.int .i64 0), (.int .i64 0), (.int .i64 0), (.bool false), (.bool false), (.int .i64 0), (.int .i64 0), (.int .i64 0), (.int .i64 0), (.int .i64 0)]) 80 rfl Tryd.underlying88 info82 rfl (by decide) (by omega) v319 y318 (⟨133, (⟨8, 0, 0, false, false⟩ : S69), 0, 0, 0, 3, 0⟩ : S82) [.int .u8 133, .int .i64 8, .int .i64 0, .int .i64 0, .bool false, .bool false, .int .i64 0, .int .i64 0, .int .i64 0, .int .i64 3, .int .i64 0] (fun _ => True) (fun _ => False) rfl rfl ?aP (fun _ hk => hk.elim) ?aF ?aO ?aB ?aS ?aL ?_; (case aP => exact k82_mkM _ _ _ (⟨133, (⟨8, 0, 0, false, false⟩ : S69), 0, 0, 0, 3, 0⟩ : S82)); (case aB => exact b_now); (case aF => exact (fun _ _ => trivial)); (case aO => exact (by (with_reducible repeat (first | apply Kd.R_alloc | apply Kd.R_drewN | apply Kd.R_drew)); exact HO320.out)); (case aS => exact (below_size b_now)); (case aL => have := LMc58.out; omega); intro v322 w63 ho hb hg hat; rw [← Ny321.out] at ho; have n0_ := Aside0.mk (hb); have n1_ := Aside0.mk (ho); clear HB; clear HO320; have HB := n0_; have HO323 := n1_; clear n0_ n1_; clear ho hb hg hat) | ((with_reducible refine gate_builtin (b := .append) (xs := #[.tmp 171, .tmp 174]) rfl ?_); at_builtin; refine Kd.R_append k82 (w0 := w) w.heap.size rfl (.tmp 171) (.tmp 174) 88 82 (.agg #[(.int .u8 0), (.int .i64 0), (.int .i64 0), (.int .i64 0), (.bool false), (.bool false), (.int .i64 0), (.int .i64 0), (.int .i64 0), (.int .i64 0), (.int .i64 0)]) 80 rfl Tryd.underlying88 info82 rfl (by decide) (by omega) v322 y321 (⟨149, (⟨9, 0, 0, false, false⟩ : S69), 0, 0, 0, 0, 0⟩ : S82) [.int .u8 149, .int .i64 9, .int .i64 0, .int .i64 0, .bool false, .bool false, .int .i64 0, .int .i64 0, .int .i64 0, .int .i64 0, .int .i64 0] (fun _ => True) (fun _ => False) rfl rfl ?aP (fun _ hk => hk.elim) ?aF ?aO ?aB ?aS ?aL ?_; (case aP => exact k82_mkM _ _ _ (⟨149, (⟨9, 0, 0, false, false⟩ : S69), 0, 0, 0, 0, 0⟩ : S82)); (case aB => exact b_now); (case aF => exact (fun _ _ => trivial)); (case aO => exact (by (with_reducible repeat (first | apply Kd.R_alloc | apply Kd.R_drewN | apply Kd.R_drew)); exact HO323.out)); (case aS => exact (below_size b_now)); (case aL => have := LMc59.out; omega); intro v325 w64 ho hb hg hat; rw [← Ny324.out] at ho; have n0_ := Aside0.mk (hb); have n1_ := Aside0.mk (ho); clear HB; clear HO323; have HB := n0_; have HO326 := n1_; clear n0_ n1_; clear ho hb hg hat) | ((with_reducible refine gate_builtin (b := .append) (xs := #[.tmp 176, .tmp 179]) rfl ?_); at_builtin; refine Kd.R_append k82 (w0 := w) w.heap.size rfl (.tmp 176) (.tmp 179) 88 82 (.agg #[(.int .u8 0), (.int .i64 0), (.int .i64 0), (.int .i64 0), (.bool false), (.bool false), (.int .i64 0), (.int .i64 0), (.int .i64 0), (.int .i64 0), (.int .i64 0)]) 80 rfl Tryd.underlying88 info82 rfl (by decide) (by omega) v325 y324 (⟨24, (⟨10, 0, 0, false, false⟩ : S69), 2, 4, 0, 3, 0⟩ : S82) [.int .u8 24, .int .i64 10, .int .i64 0, .int .i64 0, .bool false, .bool false, .int .i64 2, .int .i64 4, .int .i64 0, .int .i64 3, .int .i64 0] (fun _ => True) (fun _ => False) rfl rfl ?aP (fun _ hk => hk.elim) ?aF ?aO ?aB ?aS ?aL ?_; (case aP => exact k82_mkM _ _ _ (⟨24, (⟨10, 0, 0, false, false⟩ : S69), 2, 4, 0, 3, 0⟩ : S82)); (case aB => exact b_now); (case aF => exact (fun _ _ => trivial)); (case aO => exact (by (with_reducible repeat (first | apply Kd.R_alloc | apply Kd.R_drewN | apply Kd.R_drew)); exact HO326.out)); (case aS => exact (below_size b_now)); (case aL => have := LMc60.out; omega); intro v328 w65 ho hb hg hat; rw [← Ny327.out] at ho; have n0_ := Aside0.mk (hb); have n1_ := Aside0.mk (ho); clear HB; clear HO326; have HB := n0_; have HO329 := n1_; clear n0_ n1_; clear ho hb hg hat) | ((with_reducible refine gate_builtin (b := .append) (xs := #[.tmp 181, .tmp 184]) rfl ?_); at_builtin; refine Kd.R_append k82 (w0 := w) w.heap.size rfl (.tmp 181) (.tmp 184) 88 82 (.agg #[(.int .u8 0), (.int .i64 0), (.int .i64 0), (.int .i64 0), (.bool false), (.bool false), (.int .i64 0), (.int .i64 0), (.int .i64 0), (.int .i64 0), (.int .i64 0)]) 80 rfl Tryd.underlying88 info82 rfl (by decide) (by omega) v328 y327 (⟨24, (⟨11, 0, 0, false, false⟩ : S69), 2, 4, 0, 3, 1⟩ : S82) [.int .u8 24, .int .i64 11, .int .i64 0, .int .i64 0, .bool false, .bool false, .int .i64 2, .int .i64 4, .int .i64 0, .int .i64 3, .int .i64 1] (fun _ => True) (fun _ => False) rfl rfl ?aP (fun _ hk => hk.elim) ?aF ?aO ?aB ?aS ?aL ?_; (case aP => exact k82_mkM _ _ _ (⟨24, (⟨11, 0, 0, false, false⟩ : S69), 2, 4, 0, 3, 1⟩ : S82)); (case aB => exact b_now); (case aF => exact (fun _ _ => trivial)); (case aO => exact (by (with_reducible repeat (first | apply Kd.R_alloc | apply Kd.R_drewN | apply Kd.R_drew)); exact HO329.out)); (case aS => exact (below_size b_now)); (case aL => have := LMc61.out; omega); intro v331 w66 ho hb hg hat; rw [← Ny330.out] at ho; have n0_ := Aside0.mk (hb); have n1_ := Aside0.mk (ho); clear HB; clear HO329; have HB := n0_; have HO332 := n1_; clear n0_ n1_; clear ho hb hg hat))
                  go_ret
                  exact ⟨_, ret_now, by (with_reducible repeat (first | apply Kd.R_alloc | apply Kd.R_drewN | apply Kd.R_drew)); exact HO332.out, b_now⟩
                 ·rw [if_neg c61] at H
                  exact absurd H (by simp)
                ·rw [if_neg c60] at H
                 exact absurd H (by simp)
               ·rw [if_neg c59] at H
                exact absurd H (by simp)
              ·rw [if_neg c58] at H
               exact absurd H (by simp)
             ·rw [if_neg c57] at H
              exact absurd H (by simp)

end Go.Proofs.YtkjcjlegokdpdaaDoor.P
