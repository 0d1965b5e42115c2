/- Made by this session's driver over the kit's printer: for each Go function a Lean function with the same answers, and a proof that the Go call comes to these answers; no conditions but the ones each theorem names. -/
import Derived.Test.YtdhiibkcoolbeaaDoorPx0
namespace Go.Proofs.YtdhiibkcoolbeaaDoor.P
open Go.RowKit Go.Proofs.YtdhiibkcoolbeaaDoorW.PrintWords Go.Proofs.YtdhiibkcoolbeaaDoorW.PrintLast Go.Proofs.YtdhiibkcoolbeaaDoorW.PrintMore
attribute [local go_sem] max2_int min2_int max_two min_two max_three min_three max_four min_four   -- for this text's walks alone
set_option linter.unusedVariables false
set_option linter.unusedSimpArgs false

/-! ### stockaderef02_Rows: function 38 -/
mutual
def stockaderef02_Rows.l0 : Nat → List (S68) → Int → Option ((List (S68)))
 | 0, _, _ => none
 | k + 1, x1, x2 => if x2 ≤ 12 then (if x2 = 8 then (if x1.length < 1759218604441 then ((some (x1 ++ [(⟨(wrap64 ((wrap64 (16 * x2)) + 4)) % 256, (⟨1, x2, 0, false, false⟩ : S59), 2, 0, 0, 0, 0⟩ : S68)] : List (S68))).bind fun y181 => (if y181.length < 1759218604441 then (stockaderef02_Rows.l0 k (y181 ++ [(⟨(wrap64 ((wrap64 (16 * x2)) + 7)) % 256, (⟨1, x2, 0, true, false⟩ : S59), 2, 0, 0, 0, 0⟩ : S68)]) (wrap64 (x2 + 1))) else (none))) else (none)) else (if x1.length < 1759218604441 then ((some (x1 ++ [(⟨(wrap64 ((wrap64 (16 * x2)) + 4)) % 256, (⟨1, x2, 0, false, false⟩ : S59), 2, 0, 0, 3, 0⟩ : S68)] : List (S68))).bind fun y187 => (if y187.length < 1759218604441 then ((some (y187 ++ [(⟨(wrap64 ((wrap64 (16 * x2)) + 7)) % 256, (⟨1, x2, 0, true, false⟩ : S59), 2, 0, 0, 3, 0⟩ : S68)] : List (S68))).bind fun y190 => (if y190.length < 1759218604441 then ((some (y190 ++ [(⟨(wrap64 ((wrap64 (16 * x2)) + 12)) % 256, (⟨1, x2, 0, false, true⟩ : S59), 2, 1, 0, 0, 0⟩ : S68)] : List (S68))).bind fun y193 => (if y193.length < 1759218604441 then (stockaderef02_Rows.l0 k (y193 ++ [(⟨(wrap64 ((wrap64 (16 * x2)) + 15)) % 256, (⟨1, x2, 0, true, true⟩ : S59), 2, 1, 0, 0, 0⟩ : S68)]) (wrap64 (x2 + 1))) else (none))) else (none))) else (none))) else (none))) else (stockaderef02_Rows.l1 k x1 2)
def stockaderef02_Rows.l1 : Nat → List (S68) → Int → Option ((List (S68)))
 | 0, _, _ => none
 | k + 1, x1, x4 => if x4 ≤ 8 then (if x1.length < 1759218604441 then (stockaderef02_Rows.l1 k (x1 ++ [(⟨215, (⟨2, 0, x4, false, false⟩ : S59), 2, 0, 0, 4, wrap64 (8 * x4)⟩ : S68)]) (wrap64 (2 * x4))) else (none)) else (stockaderef02_Rows.l2 k x1 0)
def stockaderef02_Rows.l2 : Nat → List (S68) → Int → Option ((List (S68)))
 | 0, _, _ => none
 | k + 1, x1, x5 => if x5 < 4 then (if x5 = 0 then (if x1.length < 1759218604441 then ((some (x1 ++ [(⟨(wrap64 (97 + (wrap64 (8 * x5)))) % 256, (⟨3, 0, 4, false, false⟩ : S59), 2, 1, 3, 0, 0⟩ : S68)] : List (S68))).bind fun y202 => (if y202.length < 1759218604441 then ((some (y202 ++ [(⟨(wrap64 (98 + (wrap64 (8 * x5)))) % 256, (⟨5, 0, 4, false, false⟩ : S59), 1, 0, 3, 3, 0⟩ : S68)] : List (S68))).bind fun y205 => (if y205.length < 1759218604441 then (stockaderef02_Rows.l2 k (y205 ++ [(⟨(wrap64 (99 + (wrap64 (8 * x5)))) % 256, (⟨4, 0, 4, false, false⟩ : S59), 1, 1, 3, 0, 0⟩ : S68)]) (wrap64 (x5 + 1))) else (none))) else (none))) else (none)) else (if x5 = 1 then (if x1.length < 1759218604441 then ((some (x1 ++ [(⟨(wrap64 (97 + (wrap64 (8 * x5)))) % 256, (⟨3, 0, 2, false, false⟩ : S59), 2, 1, 3, 0, 0⟩ : S68)] : List (S68))).bind fun y211 => (if y211.length < 1759218604441 then ((some (y211 ++ [(⟨(wrap64 (98 + (wrap64 (8 * x5)))) % 256, (⟨5, 0, 2, false, false⟩ : S59), 1, 0, 3, 3, 0⟩ : S68)] : List (S68))).bind fun y214 => (if y214.length < 1759218604441 then (stockaderef02_Rows.l2 k (y214 ++ [(⟨(wrap64 (99 + (wrap64 (8 * x5)))) % 256, (⟨4, 0, 2, false, false⟩ : S59), 1, 1, 3, 0, 0⟩ : S68)]) (wrap64 (x5 + 1))) else (none))) else (none))) else (none)) else (if x5 = 2 then (if x1.length < 1759218604441 then ((some (x1 ++ [(⟨(wrap64 (97 + (wrap64 (8 * x5)))) % 256, (⟨3, 0, 1, false, false⟩ : S59), 2, 1, 3, 0, 0⟩ : S68)] : List (S68))).bind fun y220 => (if y220.length < 1759218604441 then ((some (y220 ++ [(⟨(wrap64 (98 + (wrap64 (8 * x5)))) % 256, (⟨5, 0, 1, false, false⟩ : S59), 1, 0, 3, 3, 0⟩ : S68)] : List (S68))).bind fun y223 => (if y223.length < 1759218604441 then (stockaderef02_Rows.l2 k (y223 ++ [(⟨(wrap64 (99 + (wrap64 (8 * x5)))) % 256, (⟨4, 0, 1, false, false⟩ : S59), 1, 1, 3, 0, 0⟩ : S68)]) (wrap64 (x5 + 1))) else (none))) else (none))) else (none)) else (if x1.length < 1759218604441 then ((some (x1 ++ [(⟨(wrap64 (97 + (wrap64 (8 * x5)))) % 256, (⟨3, 0, 8, false, false⟩ : S59), 2, 1, 3, 0, 0⟩ : S68)] : List (S68))).bind fun y229 => (if y229.length < 1759218604441 then ((some (y229 ++ [(⟨(wrap64 (98 + (wrap64 (8 * x5)))) % 256, (⟨5, 0, 8, false, false⟩ : S59), 1, 0, 3, 3, 0⟩ : S68)] : List (S68))).bind fun y232 => (if y232.length < 1759218604441 then (stockaderef02_Rows.l2 k (y232 ++ [(⟨(wrap64 (99 + (wrap64 (8 * x5)))) % 256, (⟨4, 0, 8, false, false⟩ : S59), 1, 1, 3, 0, 0⟩ : S68)]) (wrap64 (x5 + 1))) else (none))) else (none))) else (none))))) else (stockaderef02_Rows.l3 k x1 1)
def stockaderef02_Rows.l3 : Nat → List (S68) → Int → Option ((List (S68)))
 | 0, _, _ => none
 | k + 1, x1, x7 => if x7 ≤ 13 then (if x7 = 8 then (stockaderef02_Rows.l3 k x1 (wrap64 (x7 + 1))) else (if x7 = 9 then (stockaderef02_Rows.l3 k x1 (wrap64 (x7 + 1))) else (if x1.length < 1759218604441 then ((some (x1 ++ [(⟨(wrap64 ((wrap64 (16 * x7)) + 5)) % 256, (⟨6, x7, 0, true, false⟩ : S59), 1, 0, 3, 3, 0⟩ : S68)] : List (S68))).bind fun y238 => (if y238.length < 1759218604441 then ((some (y238 ++ [(⟨(wrap64 ((wrap64 (16 * x7)) + 6)) % 256, (⟨6, x7, 0, false, false⟩ : S59), 1, 0, 3, 3, 0⟩ : S68)] : List (S68))).bind fun y241 => (if y241.length < 1759218604441 then ((some (y241 ++ [(⟨(wrap64 ((wrap64 (16 * x7)) + 13)) % 256, (⟨6, x7, 0, true, true⟩ : S59), 1, 1, 3, 0, 0⟩ : S68)] : List (S68))).bind fun y244 => (if y244.length < 1759218604441 then (stockaderef02_Rows.l3 k (y244 ++ [(⟨(wrap64 ((wrap64 (16 * x7)) + 14)) % 256, (⟨6, x7, 0, false, true⟩ : S59), 1, 1, 3, 0, 0⟩ : S68)]) (wrap64 (x7 + 1))) else (none))) else (none))) else (none))) else (none)))) else (if x1.length < 1759218604441 then ((some (x1 ++ [(⟨5, (⟨7, 0, 0, false, false⟩ : S59), 0, 0, 3, 0, 0⟩ : S68)] : List (S68))).bind fun y250 => (if y250.length < 1759218604441 then ((some (y250 ++ [(⟨133, (⟨8, 0, 0, false, false⟩ : S59), 0, 0, 0, 3, 0⟩ : S68)] : List (S68))).bind fun y253 => (if y253.length < 1759218604441 then ((some (y253 ++ [(⟨149, (⟨9, 0, 0, false, false⟩ : S59), 0, 0, 0, 0, 0⟩ : S68)] : List (S68))).bind fun y256 => (if y256.length < 1759218604441 then ((some (y256 ++ [(⟨24, (⟨10, 0, 0, false, false⟩ : S59), 2, 4, 0, 3, 0⟩ : S68)] : List (S68))).bind fun y259 => (if y259.length < 1759218604441 then (some (y259 ++ [(⟨24, (⟨11, 0, 0, false, false⟩ : S59), 2, 4, 0, 3, 1⟩ : S68)])) else (none))) else (none))) else (none))) else (none))) else (none))
end
def stockaderef02_Rows.f (k : Nat)  : Option ((List (S68))) := stockaderef02_Rows.l0 k ([] : List (S68)) 0
theorem stockaderef02_Rows.mono_l : ∀ k, (∀ y0 y1, LeO (stockaderef02_Rows.l0 k y0 y1) (stockaderef02_Rows.l0 (k + 1) y0 y1)) ∧ (∀ y0 y1, LeO (stockaderef02_Rows.l1 k y0 y1) (stockaderef02_Rows.l1 (k + 1) y0 y1)) ∧ (∀ y0 y1, LeO (stockaderef02_Rows.l2 k y0 y1) (stockaderef02_Rows.l2 (k + 1) y0 y1)) ∧ (∀ y0 y1, LeO (stockaderef02_Rows.l3 k y0 y1) (stockaderef02_Rows.l3 (k + 1) y0 y1))
 | 0 => ⟨fun _ _ r h => by simp [stockaderef02_Rows.l0] at h, fun _ _ r h => by simp [stockaderef02_Rows.l1] at h, fun _ _ r h => by simp [stockaderef02_Rows.l2] at h, fun _ _ r h => by simp [stockaderef02_Rows.l3] at h⟩
 | k + 1 => by
  obtain ⟨ih0, ih1, ih2, ih3⟩ := stockaderef02_Rows.mono_l k
  refine ⟨?_, ?_, ?_, ?_⟩
  ·intro y0 y1
   unfold stockaderef02_Rows.l0
   repeat' first
   | (with_reducible exact ih0 _ _)
   | (with_reducible exact ih1 _ _)
   | (with_reducible exact ih2 _ _)
   | (with_reducible exact ih3 _ _)
   | (with_reducible exact LeO.refl _)
   | (with_reducible exact LeO.none _)
   | (with_reducible refine LeO.ite ?_ ?_)
   | (with_reducible refine LeO.bind ?_ (fun _ => ?_))
   | exact ih0 _ _
   | exact ih1 _ _
   | exact ih2 _ _
   | exact ih3 _ _
   | exact LeO.none _
   | refine LeO.ite ?_ ?_
   | refine LeO.bind ?_ (fun _ => ?_)
  ·intro y0 y1
   unfold stockaderef02_Rows.l1
   repeat' first
   | (with_reducible exact ih0 _ _)
   | (with_reducible exact ih1 _ _)
   | (with_reducible exact ih2 _ _)
   | (with_reducible exact ih3 _ _)
   | (with_reducible exact LeO.refl _)
   | (with_reducible exact LeO.none _)
   | (with_reducible refine LeO.ite ?_ ?_)
   | (with_reducible refine LeO.bind ?_ (fun _ => ?_))
   | exact ih0 _ _
   | exact ih1 _ _
   | exact ih2 _ _
   | exact ih3 _ _
   | exact LeO.none _
   | refine LeO.ite ?_ ?_
   | refine LeO.bind ?_ (fun _ => ?_)
  ·intro y0 y1
   unfold stockaderef02_Rows.l2
   repeat' first
   | (with_reducible exact ih0 _ _)
   | (with_reducible exact ih1 _ _)
   | (with_reducible exact ih2 _ _)
   | (with_reducible exact ih3 _ _)
   | (with_reducible exact LeO.refl _)
   | (with_reducible exact LeO.none _)
   | (with_reducible refine LeO.ite ?_ ?_)
   | (with_reducible refine LeO.bind ?_ (fun _ => ?_))
   | exact ih0 _ _
   | exact ih1 _ _
   | exact ih2 _ _
   | exact ih3 _ _
   | exact LeO.none _
   | refine LeO.ite ?_ ?_
   | refine LeO.bind ?_ (fun _ => ?_)
  ·intro y0 y1
   unfold stockaderef02_Rows.l3
   repeat' first
   | (with_reducible exact ih0 _ _)
   | (with_reducible exact ih1 _ _)
   | (with_reducible exact ih2 _ _)
   | (with_reducible exact ih3 _ _)
   | (with_reducible exact LeO.refl _)
   | (with_reducible exact LeO.none _)
   | (with_reducible refine LeO.ite ?_ ?_)
   | (with_reducible refine LeO.bind ?_ (fun _ => ?_))
   | exact ih0 _ _
   | exact ih1 _ _
   | exact ih2 _ _
   | exact ih3 _ _
   | exact LeO.none _
   | refine LeO.ite ?_ ?_
   | refine LeO.bind ?_ (fun _ => ?_)
theorem stockaderef02_Rows.mono : ∀ k, LeO (stockaderef02_Rows.f k ) (stockaderef02_Rows.f (k + 1) ) := by
 intro  k
 obtain ⟨ih0, ih1, ih2, ih3⟩ := stockaderef02_Rows.mono_l k
 unfold stockaderef02_Rows.f
 repeat' first
   | (with_reducible exact ih0 _ _)
   | (with_reducible exact ih1 _ _)
   | (with_reducible exact ih2 _ _)
   | (with_reducible exact ih3 _ _)
   | (with_reducible exact LeO.refl _)
   | (with_reducible exact LeO.none _)
   | (with_reducible refine LeO.ite ?_ ?_)
   | (with_reducible refine LeO.bind ?_ (fun _ => ?_))
   | exact ih0 _ _
   | exact ih1 _ _
   | exact ih2 _ _
   | exact ih3 _ _
   | exact LeO.none _
   | refine LeO.ite ?_ ?_
   | refine LeO.bind ?_ (fun _ => ?_)
set_option maxHeartbeats 8000000 in
set_option maxRecDepth 100000 in
theorem stockaderef02_Rows.calls (k : Nat)  (r : List (S68)) (w : World) (h : stockaderef02_Rows.f k  = some r) :
  Calls Tryd.prog 38 #[] w fun e w' => ∃ v0_ : Value, e = .returned (v0_) ∧ Kd.R k68 68 w' w.heap.size (fun _ => True) v0_ r ∧ Below w.heap.size w w' := by
 have hu59 := Tryd.underlying59
 have hu68 := Tryd.underlying68
 have HB := Aside0.mk (Below.refl w.heap.size w)
 have H : (stockaderef02_Rows.l0 k ([] : List (S68)) 0) = some r := h
 clear h
 have H' := Aside0.mk H
 clear H
 go_enter Tryd.func38, Tryd.ntmps38
 go_wp2
 go_loopg [1, 2] k (fun kq v1 v2 w' => ∃ (x1_1 : List (S68)) (x2_1 : Int), v2 = .int .i64 x2_1 ∧ Aside0 (stockaderef02_Rows.l0 kq x1_1 x2_1 = some r) ∧ Aside0 (kq ≤ k) ∧ Aside0 (Kd.R k68 68 w' w.heap.size (fun _ => True) v1 x1_1) ∧ Aside0 (Below w.heap.size w w'))
 case atStart => exact ⟨(([] : List (S68))), (0), eq_now, H', ⟨Nat.le_refl _⟩, ⟨by first | exact Kd.R_nil _ _ _ _ _ | exact Kd.N_nil _ _ _ _ _ | exact Kd.V_nil _ _ _ _ _ | exact Kd.Q_nil _ _ _ _ _ | exact Kd.S_nil _ _ _ _ _⟩, ⟨b_now⟩⟩
 case round =>
  clear H'
  obtain ⟨x1_1, x2_1, rfl, HA, HK1, HO_1, HB⟩ := hrel
  cases gk with
  | zero => exact absurd HA.out (by simp [stockaderef02_Rows.l0])
  | succ k1 =>
   have H := HA.out
   clear HA
   simp only [stockaderef02_Rows.l0] at H
   by_cases c1 : x2_1 ≤ 12
   ·rw [if_pos c1] at H
    have c1b0 : decide (x2_1 ≤ 12) = true := decide_eq_true c1
    clear c1
    by_cases c2 : x2_1 = 8
    ·rw [if_pos c2] at H
     have c2b0 : (x2_1 == 8) = true := beq_iff_eq.mpr c2
     have c2b1 : (x2_1 != 8) = false := bne_eq_false_iff_eq.mpr c2
     clear c2
     by_cases c3 : x1_1.length < 1759218604441
     ·rw [if_pos c3] at H
      have LMc3 := Aside0.mk c3
      clear c3
      obtain ⟨y181, hy181⟩ : ∃ y_ : List (S68), y_ = (x1_1 ++ [(⟨(wrap64 ((wrap64 (16 * x2_1)) + 4)) % 256, (⟨1, x2_1, 0, false, false⟩ : S59), 2, 0, 0, 0, 0⟩ : S68)]) := ⟨_, rfl⟩
      replace H : (if y181.length < 1759218604441 then (stockaderef02_Rows.l0 k1 (y181 ++ [(⟨(wrap64 ((wrap64 (16 * x2_1)) + 7)) % 256, (⟨1, x2_1, 0, true, false⟩ : S59), 2, 0, 0, 0, 0⟩ : S68)]) (wrap64 (x2_1 + 1))) else (none)) = some r := by first | (rw [hy181]; with_reducible exact H) | (have H2_ := (Option.bind_some _ _).symm.trans H; rw [hy181]; with_reducible exact H2_) | (have H2_ := (Option.bind_some _ _).symm.trans H; with_reducible exact H2_) | with_reducible exact H | (rw [hy181]; exact H) | exact H
      have Ny181 := Aside0.mk hy181
      clear hy181
      by_cases c4 : y181.length < 1759218604441
      ·rw [if_pos c4] at H
       have LMc4 := Aside0.mk c4
       clear c4
       obtain ⟨y184, hy184⟩ : ∃ y_ : List (S68), y_ = (y181 ++ [(⟨(wrap64 ((wrap64 (16 * x2_1)) + 7)) % 256, (⟨1, x2_1, 0, true, false⟩ : S59), 2, 0, 0, 0, 0⟩ : S68)]) := ⟨_, rfl⟩
       replace H : (stockaderef02_Rows.l0 k1 y184 (wrap64 (x2_1 + 1))) = some r := by first | (rw [hy184]; with_reducible exact H) | (have H2_ := (Option.bind_some _ _).symm.trans H; rw [hy184]; with_reducible exact H2_) | (have H2_ := (Option.bind_some _ _).symm.trans H; with_reducible exact H2_) | with_reducible exact H | (rw [hy184]; exact H) | exact H
       have Ny184 := Aside0.mk hy184
       clear hy184
       have H' := Aside0.mk H
       clear H
       go_wp2_with (first | ((with_reducible refine gate_builtin (b := .append) (xs := #[.tmp 14, .tmp 23]) rfl ?_); at_builtin; refine Kd.R_append k68 (w0 := w) w.heap.size rfl (.tmp 14) (.tmp 23) 74 68 (.agg #[(.int .u8 0), (.int .i64 0), (.int .i64 0), (.int .i64 0), (.bool false), (.bool false), (.int .i64 0), (.int .i64 0), (.int .i64 0), (.int .i64 0), (.int .i64 0)]) 80 rfl Tryd.underlying74 info68 rfl (by decide) (by omega) u1 x1_1 (⟨(wrap64 ((wrap64 (16 * x2_1)) + 4)) % 256, (⟨1, x2_1, 0, false, false⟩ : S59), 2, 0, 0, 0, 0⟩ : S68) [.int .u8 ((wrap64 ((wrap64 (16 * x2_1)) + 4)) % 256), .int .i64 1, .int .i64 x2_1, .int .i64 0, .bool false, .bool false, .int .i64 2, .int .i64 0, .int .i64 0, .int .i64 0, .int .i64 0] (fun _ => True) (fun _ => False) rfl rfl ?aP (fun _ hk => hk.elim) ?aF ?aO ?aB ?aS ?aL ?_; (case aP => exact k68_mkM _ _ _ (⟨(wrap64 ((wrap64 (16 * x2_1)) + 4)) % 256, (⟨1, x2_1, 0, false, false⟩ : S59), 2, 0, 0, 0, 0⟩ : S68)); (case aB => exact b_now); (case aF => exact (fun _ _ => trivial)); (case aO => exact (by (with_reducible repeat (first | apply Kd.R_alloc | apply Kd.R_drewN | apply Kd.R_drew)); exact HO_1.out)); (case aS => exact (below_size b_now)); (case aL => have := LMc3.out; omega); intro v182 w5 ho hb hg hat; rw [← Ny181.out] at ho; have n0_ := Aside0.mk (hb); have n1_ := Aside0.mk (ho); clear HB; clear HO_1; have HB := n0_; have HO183 := n1_; clear n0_ n1_; clear ho hb hg hat) | ((with_reducible refine gate_builtin (b := .append) (xs := #[.tmp 25, .tmp 34]) rfl ?_); at_builtin; refine Kd.R_append k68 (w0 := w) w.heap.size rfl (.tmp 25) (.tmp 34) 74 68 (.agg #[(.int .u8 0), (.int .i64 0), (.int .i64 0), (.int .i64 0), (.bool false), (.bool false), (.int .i64 0), (.int .i64 0), (.int .i64 0), (.int .i64 0), (.int .i64 0)]) 80 rfl Tryd.underlying74 info68 rfl (by decide) (by omega) v182 y181 (⟨(wrap64 ((wrap64 (16 * x2_1)) + 7)) % 256, (⟨1, x2_1, 0, true, false⟩ : S59), 2, 0, 0, 0, 0⟩ : S68) [.int .u8 ((wrap64 ((wrap64 (16 * x2_1)) + 7)) % 256), .int .i64 1, .int .i64 x2_1, .int .i64 0, .bool true, .bool false, .int .i64 2, .int .i64 0, .int .i64 0, .int .i64 0, .int .i64 0] (fun _ => True) (fun _ => False) rfl rfl ?aP (fun _ hk => hk.elim) ?aF ?aO ?aB ?aS ?aL ?_; (case aP => exact k68_mkM _ _ _ (⟨(wrap64 ((wrap64 (16 * x2_1)) + 7)) % 256, (⟨1, x2_1, 0, true, false⟩ : S59), 2, 0, 0, 0, 0⟩ : S68)); (case aB => exact b_now); (case aF => exact (fun _ _ => trivial)); (case aO => exact (by (with_reducible repeat (first | apply Kd.R_alloc | apply Kd.R_drewN | apply Kd.R_drew)); exact HO183.out)); (case aS => exact (below_size b_now)); (case aL => have := LMc4.out; omega); intro v185 w6 ho hb hg hat; rw [← Ny184.out] at ho; have n0_ := Aside0.mk (hb); have n1_ := Aside0.mk (ho); clear HB; clear HO183; have HB := n0_; have HO186 := n1_; clear n0_ n1_; clear ho hb hg hat))
       go_roundg k1
       case measure => have := HK1.out; omega
       case rel => exact ⟨(y184), (wrap64 (x2_1 + 1)), eq_now, H', ⟨by have := HK1.out; omega⟩, ⟨by (with_reducible repeat (first | apply Kd.R_alloc | apply Kd.R_drewN | apply Kd.R_drew)); exact HO186.out⟩, ⟨b_now⟩⟩
      ·rw [if_neg c4] at H
       exact absurd H (by simp)
     ·rw [if_neg c3] at H
      exact absurd H (by simp)
    ·rw [if_neg c2] at H
     have c2b0 : (x2_1 == 8) = false := beq_eq_false_iff_ne.mpr c2
     have c2b1 : (x2_1 != 8) = true := bne_iff_ne.mpr c2
     by_cases c7 : x1_1.length < 1759218604441
     ·rw [if_pos c7] at H
      have LMc7 := Aside0.mk c7
      clear c7
      obtain ⟨y187, hy187⟩ : ∃ y_ : List (S68), y_ = (x1_1 ++ [(⟨(wrap64 ((wrap64 (16 * x2_1)) + 4)) % 256, (⟨1, x2_1, 0, false, false⟩ : S59), 2, 0, 0, 3, 0⟩ : S68)]) := ⟨_, rfl⟩
      replace H : (if y187.length < 1759218604441 then ((some (y187 ++ [(⟨(wrap64 ((wrap64 (16 * x2_1)) + 7)) % 256, (⟨1, x2_1, 0, true, false⟩ : S59), 2, 0, 0, 3, 0⟩ : S68)] : List (S68))).bind fun y190 => (if y190.length < 1759218604441 then ((some (y190 ++ [(⟨(wrap64 ((wrap64 (16 * x2_1)) + 12)) % 256, (⟨1, x2_1, 0, false, true⟩ : S59), 2, 1, 0, 0, 0⟩ : S68)] : List (S68))).bind fun y193 => (if y193.length < 1759218604441 then (stockaderef02_Rows.l0 k1 (y193 ++ [(⟨(wrap64 ((wrap64 (16 * x2_1)) + 15)) % 256, (⟨1, x2_1, 0, true, true⟩ : S59), 2, 1, 0, 0, 0⟩ : S68)]) (wrap64 (x2_1 + 1))) else (none))) else (none))) else (none)) = some r := by first | (rw [hy187]; with_reducible exact H) | (have H2_ := (Option.bind_some _ _).symm.trans H; rw [hy187]; with_reducible exact H2_) | (have H2_ := (Option.bind_some _ _).symm.trans H; with_reducible exact H2_) | with_reducible exact H | (rw [hy187]; exact H) | exact H
      have Ny187 := Aside0.mk hy187
      clear hy187
      by_cases c8 : y187.length < 1759218604441
      ·rw [if_pos c8] at H
       have LMc8 := Aside0.mk c8
       clear c8
       obtain ⟨y190, hy190⟩ : ∃ y_ : List (S68), y_ = (y187 ++ [(⟨(wrap64 ((wrap64 (16 * x2_1)) + 7)) % 256, (⟨1, x2_1, 0, true, false⟩ : S59), 2, 0, 0, 3, 0⟩ : S68)]) := ⟨_, rfl⟩
       replace H : (if y190.length < 1759218604441 then ((some (y190 ++ [(⟨(wrap64 ((wrap64 (16 * x2_1)) + 12)) % 256, (⟨1, x2_1, 0, false, true⟩ : S59), 2, 1, 0, 0, 0⟩ : S68)] : List (S68))).bind fun y193 => (if y193.length < 1759218604441 then (stockaderef02_Rows.l0 k1 (y193 ++ [(⟨(wrap64 ((wrap64 (16 * x2_1)) + 15)) % 256, (⟨1, x2_1, 0, true, true⟩ : S59), 2, 1, 0, 0, 0⟩ : S68)]) (wrap64 (x2_1 + 1))) else (none))) else (none)) = some r := by first | (rw [hy190]; with_reducible exact H) | (have H2_ := (Option.bind_some _ _).symm.trans H; rw [hy190]; with_reducible exact H2_) | (have H2_ := (Option.bind_some _ _).symm.trans H; with_reducible exact H2_) | with_reducible exact H | (rw [hy190]; exact H) | exact H
       have Ny190 := Aside0.mk hy190
       clear hy190
       by_cases c9 : y190.length < 1759218604441
       ·rw [if_pos c9] at H
        have LMc9 := Aside0.mk c9
        clear c9
        obtain ⟨y193, hy193⟩ : ∃ y_ : List (S68), y_ = (y190 ++ [(⟨(wrap64 ((wrap64 (16 * x2_1)) + 12)) % 256, (⟨1, x2_1, 0, false, true⟩ : S59), 2, 1, 0, 0, 0⟩ : S68)]) := ⟨_, rfl⟩
        replace H : (if y193.length < 1759218604441 then (stockaderef02_Rows.l0 k1 (y193 ++ [(⟨(wrap64 ((wrap64 (16 * x2_1)) + 15)) % 256, (⟨1, x2_1, 0, true, true⟩ : S59), 2, 1, 0, 0, 0⟩ : S68)]) (wrap64 (x2_1 + 1))) else (none)) = some r := by first | (rw [hy193]; with_reducible exact H) | (have H2_ := (Option.bind_some _ _).symm.trans H; rw [hy193]; with_reducible exact H2_) | (have H2_ := (Option.bind_some _ _).symm.trans H; with_reducible exact H2_) | with_reducible exact H | (rw [hy193]; exact H) | exact H
        have Ny193 := Aside0.mk hy193
        clear hy193
        by_cases c10 : y193.length < 1759218604441
        ·rw [if_pos c10] at H
         have LMc10 := Aside0.mk c10
         clear c10
         obtain ⟨y196, hy196⟩ : ∃ y_ : List (S68), y_ = (y193 ++ [(⟨(wrap64 ((wrap64 (16 * x2_1)) + 15)) % 256, (⟨1, x2_1, 0, true, true⟩ : S59), 2, 1, 0, 0, 0⟩ : S68)]) := ⟨_, rfl⟩
         replace H : (stockaderef02_Rows.l0 k1 y196 (wrap64 (x2_1 + 1))) = some r := by first | (rw [hy196]; with_reducible exact H) | (have H2_ := (Option.bind_some _ _).symm.trans H; rw [hy196]; with_reducible exact H2_) | (have H2_ := (Option.bind_some _ _).symm.trans H; with_reducible exact H2_) | with_reducible exact H | (rw [hy196]; exact H) | exact H
         have Ny196 := Aside0.mk hy196
         clear hy196
         have H' := Aside0.mk H
         clear H
         go_wp2_with (first | ((with_reducible refine gate_builtin (b := .append) (xs := #[.tmp 14, .tmp 23]) rfl ?_); at_builtin; refine Kd.R_append k68 (w0 := w) w.heap.size rfl (.tmp 14) (.tmp 23) 74 68 (.agg #[(.int .u8 0), (.int .i64 0), (.int .i64 0), (.int .i64 0), (.bool false), (.bool false), (.int .i64 0), (.int .i64 0), (.int .i64 0), (.int .i64 0), (.int .i64 0)]) 80 rfl Tryd.underlying74 info68 rfl (by decide) (by omega) u1 x1_1 (⟨(wrap64 ((wrap64 (16 * x2_1)) + 4)) % 256, (⟨1, x2_1, 0, false, false⟩ : S59), 2, 0, 0, 3, 0⟩ : S68) [.int .u8 ((wrap64 ((wrap64 (16 * x2_1)) + 4)) % 256), .int .i64 1, .int .i64 x2_1, .int .i64 0, .bool false, .bool false, .int .i64 2, .int .i64 0, .int .i64 0, .int .i64 3, .int .i64 0] (fun _ => True) (fun _ => False) rfl rfl ?aP (fun _ hk => hk.elim) ?aF ?aO ?aB ?aS ?aL ?_; (case aP => exact k68_mkM _ _ _ (⟨(wrap64 ((wrap64 (16 * x2_1)) + 4)) % 256, (⟨1, x2_1, 0, false, false⟩ : S59), 2, 0, 0, 3, 0⟩ : S68)); (case aB => exact b_now); (case aF => exact (fun _ _ => trivial)); (case aO => exact (by (with_reducible repeat (first | apply Kd.R_alloc | apply Kd.R_drewN | apply Kd.R_drew)); exact HO_1.out)); (case aS => exact (below_size b_now)); (case aL => have := LMc7.out; omega); intro v188 w11 ho hb hg hat; rw [← Ny187.out] at ho; have n0_ := Aside0.mk (hb); have n1_ := Aside0.mk (ho); clear HB; clear HO_1; have HB := n0_; have HO189 := n1_; clear n0_ n1_; clear ho hb hg hat) | ((with_reducible refine gate_builtin (b := .append) (xs := #[.tmp 25, .tmp 34]) rfl ?_); at_builtin; refine Kd.R_append k68 (w0 := w) w.heap.size rfl (.tmp 25) (.tmp 34) 74 68 (.agg #[(.int .u8 0), (.int .i64 0), (.int .i64 0), (.int .i64 0), (.bool false), (.bool false), (.int .i64 0), (.int .i64 0), (.int .i64 0), (.int .i64 0), (.int .i64 0)]) 80 rfl Tryd.underlying74 info68 rfl (by decide) (by omega) v188 y187 (⟨(wrap64 ((wrap64 (16 * x2_1)) + 7)) % 256, (⟨1, x2_1, 0, true, false⟩ : S59), 2, 0, 0, 3, 0⟩ : S68) [.int .u8 ((wrap64 ((wrap64 (16 * x2_1)) + 7)) % 256), .int .i64 1, .int .i64 x2_1, .int .i64 0, .bool true, .bool false, .int .i64 2, .int .i64 0, .int .i64 0, .int .i64 3, .int .i64 0] (fun _ => True) (fun _ => False) rfl rfl ?aP (fun _ hk => hk.elim) ?aF ?aO ?aB ?aS ?aL ?_; (case aP => exact k68_mkM _ _ _ (⟨(wrap64 ((wrap64 (16 * x2_1)) + 7)) % 256, (⟨1, x2_1, 0, true, false⟩ : S59), 2, 0, 0, 3, 0⟩ : S68)); (case aB => exact b_now); (case aF => exact (fun _ _ => trivial)); (case aO => exact (by (with_reducible repeat (first | apply Kd.R_alloc | apply Kd.R_drewN | apply Kd.R_drew)); exact HO189.out)); (case aS => exact (below_size b_now)); (case aL => have := LMc8.out; omega); intro v191 w12 ho hb hg hat; rw [← Ny190.out] at ho; have n0_ := Aside0.mk (hb); have n1_ := Aside0.mk (ho); clear HB; clear HO189; have HB := n0_; have HO192 := n1_; clear n0_ n1_; clear ho hb hg hat) | ((with_reducible refine gate_builtin (b := .append) (xs := #[.tmp 38, .tmp 46]) rfl ?_); at_builtin; refine Kd.R_append k68 (w0 := w) w.heap.size rfl (.tmp 38) (.tmp 46) 74 68 (.agg #[(.int .u8 0), (.int .i64 0), (.int .i64 0), (.int .i64 0), (.bool false), (.bool false), (.int .i64 0), (.int .i64 0), (.int .i64 0), (.int .i64 0), (.int .i64 0)]) 80 rfl Tryd.underlying74 info68 rfl (by decide) (by omega) v191 y190 (⟨(wrap64 ((wrap64 (16 * x2_1)) + 12)) % 256, (⟨1, x2_1, 0, false, true⟩ : S59), 2, 1, 0, 0, 0⟩ : S68) [.int .u8 ((wrap64 ((wrap64 (16 * x2_1)) + 12)) % 256), .int .i64 1, .int .i64 x2_1, .int .i64 0, .bool false, .bool true, .int .i64 2, .int .i64 1, .int .i64 0, .int .i64 0, .int .i64 0] (fun _ => True) (fun _ => False) rfl rfl ?aP (fun _ hk => hk.elim) ?aF ?aO ?aB ?aS ?aL ?_; (case aP => exact k68_mkM _ _ _ (⟨(wrap64 ((wrap64 (16 * x2_1)) + 12)) % 256, (⟨1, x2_1, 0, false, true⟩ : S59), 2, 1, 0, 0, 0⟩ : S68)); (case aB => exact b_now); (case aF => exact (fun _ _ => trivial)); (case aO => exact (by (with_reducible repeat (first | apply Kd.R_alloc | apply Kd.R_drewN | apply Kd.R_drew)); exact HO192.out)); (case aS => exact (below_size b_now)); (case aL => have := LMc9.out; omega); intro v194 w13 ho hb hg hat; rw [← Ny193.out] at ho; have n0_ := Aside0.mk (hb); have n1_ := Aside0.mk (ho); clear HB; clear HO192; have HB := n0_; have HO195 := n1_; clear n0_ n1_; clear ho hb hg hat) | ((with_reducible refine gate_builtin (b := .append) (xs := #[.tmp 48, .tmp 56]) rfl ?_); at_builtin; refine Kd.R_append k68 (w0 := w) w.heap.size rfl (.tmp 48) (.tmp 56) 74 68 (.agg #[(.int .u8 0), (.int .i64 0), (.int .i64 0), (.int .i64 0), (.bool false), (.bool false), (.int .i64 0), (.int .i64 0), (.int .i64 0), (.int .i64 0), (.int .i64 0)]) 80 rfl Tryd.underlying74 info68 rfl (by decide) (by omega) v194 y193 (⟨(wrap64 ((wrap64 (16 * x2_1)) + 15)) % 256, (⟨1, x2_1, 0, true, true⟩ : S59), 2, 1, 0, 0, 0⟩ : S68) [.int .u8 ((wrap64 ((wrap64 (16 * x2_1)) + 15)) % 256), .int .i64 1, .int .i64 x2_1, .int .i64 0, .bool true, .bool true, .int .i64 2, .int .i64 1, .int .i64 0, .int .i64 0, .int .i64 0] (fun _ => True) (fun _ => False) rfl rfl ?aP (fun _ hk => hk.elim) ?aF ?aO ?aB ?aS ?aL ?_; (case aP => exact k68_mkM _ _ _ (⟨(wrap64 ((wrap64 (16 * x2_1)) + 15)) % 256, (⟨1, x2_1, 0, true, true⟩ : S59), 2, 1, 0, 0, 0⟩ : S68)); (case aB => exact b_now); (case aF => exact (fun _ _ => trivial)); (case aO => exact (by (with_reducible repeat (first | apply Kd.R_alloc | apply Kd.R_drewN | apply Kd.R_drew)); exact HO195.out)); (case aS => exact (below_size b_now)); (case aL => have := LMc10.out; omega); intro v197 w14 ho hb hg hat; rw [← Ny196.out] at ho; have n0_ := Aside0.mk (hb); have n1_ := Aside0.mk (ho); clear HB; clear HO195; have HB := n0_; have HO198 := n1_; clear n0_ n1_; clear ho hb hg hat))
         go_roundg k1
         case measure => have := HK1.out; omega
         case rel => exact ⟨(y196), (wrap64 (x2_1 + 1)), eq_now, H', ⟨by have := HK1.out; omega⟩, ⟨by (with_reducible repeat (first | apply Kd.R_alloc | apply Kd.R_drewN | apply Kd.R_drew)); exact HO198.out⟩, ⟨b_now⟩⟩
        ·rw [if_neg c10] at H
         exact absurd H (by simp)
       ·rw [if_neg c9] at H
        exact absurd H (by simp)
      ·rw [if_neg c8] at H
       exact absurd H (by simp)
     ·rw [if_neg c7] at H
      exact absurd H (by simp)
   ·rw [if_neg c1] at H
    have c1b0 : decide (x2_1 ≤ 12) = false := decide_eq_false c1
    clear c1
    have H' := Aside0.mk H
    clear H
    go_wp2
    go_loopg [1, 4] k1 (fun kq v1 v4 w' => ∃ (x1_2 : List (S68)) (x4_2 : Int), v4 = .int .i64 x4_2 ∧ Aside0 (stockaderef02_Rows.l1 kq x1_2 x4_2 = some r) ∧ Aside0 (kq ≤ k1) ∧ Aside0 (Kd.R k68 68 w' w.heap.size (fun _ => True) v1 x1_2) ∧ Aside0 (Below w.heap.size w w'))
    case atStart => exact ⟨(x1_1), (2), eq_now, H', ⟨Nat.le_refl _⟩, ⟨by (with_reducible repeat (first | apply Kd.R_alloc | apply Kd.R_drewN | apply Kd.R_drew)); exact HO_1.out⟩, ⟨b_now⟩⟩
    case round =>
     clear H'
     try clear c1
     try clear c1b0
     try clear c2
     try clear c2b0
     try clear c2b1
     try clear p2
     try clear c3
     try clear c4
     try clear p6
     try clear c7
     try clear c8
     try clear c9
     try clear c10
     obtain ⟨x1_2, x4_2, rfl, HA, HK2, HO_1, HB⟩ := hrel
     cases gk with
     | zero => exact absurd HA.out (by simp [stockaderef02_Rows.l1])
     | succ k2 =>
      have H := HA.out
      clear HA
      simp only [stockaderef02_Rows.l1] at H
      by_cases c15 : x4_2 ≤ 8
      ·rw [if_pos c15] at H
       have c15b0 : decide (x4_2 ≤ 8) = true := decide_eq_true c15
       clear c15
       by_cases c16 : x1_2.length < 1759218604441
       ·rw [if_pos c16] at H
        have LMc16 := Aside0.mk c16
        clear c16
        obtain ⟨y199, hy199⟩ : ∃ y_ : List (S68), y_ = (x1_2 ++ [(⟨215, (⟨2, 0, x4_2, false, false⟩ : S59), 2, 0, 0, 4, wrap64 (8 * x4_2)⟩ : S68)]) := ⟨_, rfl⟩
        replace H : (stockaderef02_Rows.l1 k2 y199 (wrap64 (2 * x4_2))) = some r := by first | (rw [hy199]; with_reducible exact H) | (have H2_ := (Option.bind_some _ _).symm.trans H; rw [hy199]; with_reducible exact H2_) | (have H2_ := (Option.bind_some _ _).symm.trans H; with_reducible exact H2_) | with_reducible exact H | (rw [hy199]; exact H) | exact H
        have Ny199 := Aside0.mk hy199
        clear hy199
        have H' := Aside0.mk H
        clear H
        go_wp2_with (first | ((with_reducible refine gate_builtin (b := .append) (xs := #[.tmp 62, .tmp 68]) rfl ?_); at_builtin; refine Kd.R_append k68 (w0 := w) w.heap.size rfl (.tmp 62) (.tmp 68) 74 68 (.agg #[(.int .u8 0), (.int .i64 0), (.int .i64 0), (.int .i64 0), (.bool false), (.bool false), (.int .i64 0), (.int .i64 0), (.int .i64 0), (.int .i64 0), (.int .i64 0)]) 80 rfl Tryd.underlying74 info68 rfl (by decide) (by omega) u1 x1_2 (⟨215, (⟨2, 0, x4_2, false, false⟩ : S59), 2, 0, 0, 4, wrap64 (8 * x4_2)⟩ : S68) [.int .u8 215, .int .i64 2, .int .i64 0, .int .i64 x4_2, .bool false, .bool false, .int .i64 2, .int .i64 0, .int .i64 0, .int .i64 4, .int .i64 (wrap64 (8 * x4_2))] (fun _ => True) (fun _ => False) rfl rfl ?aP (fun _ hk => hk.elim) ?aF ?aO ?aB ?aS ?aL ?_; (case aP => exact k68_mkM _ _ _ (⟨215, (⟨2, 0, x4_2, false, false⟩ : S59), 2, 0, 0, 4, wrap64 (8 * x4_2)⟩ : S68)); (case aB => exact b_now); (case aF => exact (fun _ _ => trivial)); (case aO => exact (by (with_reducible repeat (first | apply Kd.R_alloc | apply Kd.R_drewN | apply Kd.R_drew)); exact HO_1.out)); (case aS => exact (below_size b_now)); (case aL => have := LMc16.out; omega); intro v200 w17 ho hb hg hat; rw [← Ny199.out] at ho; have n0_ := Aside0.mk (hb); have n1_ := Aside0.mk (ho); clear HB; clear HO_1; have HB := n0_; have HO201 := n1_; clear n0_ n1_; clear ho hb hg hat))
        go_roundg k2
        case measure => have := HK1.out; have := HK2.out; omega
        case rel => exact ⟨(y199), (wrap64 (2 * x4_2)), eq_now, H', ⟨by have := HK1.out; have := HK2.out; omega⟩, ⟨by (with_reducible repeat (first | apply Kd.R_alloc | apply Kd.R_drewN | apply Kd.R_drew)); exact HO201.out⟩, ⟨b_now⟩⟩
       ·rw [if_neg c16] at H
        exact absurd H (by simp)
      ·rw [if_neg c15] at H
       have c15b0 : decide (x4_2 ≤ 8) = false := decide_eq_false c15
       clear c15
       have H' := Aside0.mk H
       clear H
       go_wp2
       go_loopg [1, 5] k2 (fun kq v1 v5 w' => ∃ (x1_3 : List (S68)) (x5_3 : Int), v5 = .int .i64 x5_3 ∧ Aside0 (stockaderef02_Rows.l2 kq x1_3 x5_3 = some r) ∧ Aside0 (kq ≤ k2) ∧ Aside0 (Kd.R k68 68 w' w.heap.size (fun _ => True) v1 x1_3) ∧ Aside0 (Below w.heap.size w w'))
       case atStart => exact ⟨(x1_2), (0), eq_now, H', ⟨Nat.le_refl _⟩, ⟨by (with_reducible repeat (first | apply Kd.R_alloc | apply Kd.R_drewN | apply Kd.R_drew)); exact HO_1.out⟩, ⟨b_now⟩⟩
       case round =>
        clear H'
        try clear c1
        try clear c1b0
        try clear c2
        try clear c2b0
        try clear c2b1
        try clear p2
        try clear c3
        try clear c4
        try clear p6
        try clear c7
        try clear c8
        try clear c9
        try clear c10
        try clear c15
        try clear c15b0
        try clear c16
        try clear p2
        try clear p6
        obtain ⟨x1_3, x5_3, rfl, HA, HK3, HO_1, HB⟩ := hrel
        cases gk with
        | zero => exact absurd HA.out (by simp [stockaderef02_Rows.l2])
        | succ k3 =>
         have H := HA.out
         clear HA
         simp only [stockaderef02_Rows.l2] at H
         by_cases c18 : x5_3 < 4
         ·rw [if_pos c18] at H
          have c18b0 : decide (x5_3 < 4) = true := decide_eq_true c18
          clear c18
          by_cases c19 : x5_3 = 0
          ·rw [if_pos c19] at H
           have c19b0 : (x5_3 == 0) = true := beq_iff_eq.mpr c19
           have c19b1 : (x5_3 != 0) = false := bne_eq_false_iff_eq.mpr c19
           clear c19
           by_cases c20 : x1_3.length < 1759218604441
           ·rw [if_pos c20] at H
            have LMc20 := Aside0.mk c20
            clear c20
            obtain ⟨y202, hy202⟩ : ∃ y_ : List (S68), y_ = (x1_3 ++ [(⟨(wrap64 (97 + (wrap64 (8 * x5_3)))) % 256, (⟨3, 0, 4, false, false⟩ : S59), 2, 1, 3, 0, 0⟩ : S68)]) := ⟨_, rfl⟩
            replace H : (if y202.length < 1759218604441 then ((some (y202 ++ [(⟨(wrap64 (98 + (wrap64 (8 * x5_3)))) % 256, (⟨5, 0, 4, false, false⟩ : S59), 1, 0, 3, 3, 0⟩ : S68)] : List (S68))).bind fun y205 => (if y205.length < 1759218604441 then (stockaderef02_Rows.l2 k3 (y205 ++ [(⟨(wrap64 (99 + (wrap64 (8 * x5_3)))) % 256, (⟨4, 0, 4, false, false⟩ : S59), 1, 1, 3, 0, 0⟩ : S68)]) (wrap64 (x5_3 + 1))) else (none))) else (none)) = some r := by first | (rw [hy202]; with_reducible exact H) | (have H2_ := (Option.bind_some _ _).symm.trans H; rw [hy202]; with_reducible exact H2_) | (have H2_ := (Option.bind_some _ _).symm.trans H; with_reducible exact H2_) | with_reducible exact H | (rw [hy202]; exact H) | exact H
            have Ny202 := Aside0.mk hy202
            clear hy202
            by_cases c21 : y202.length < 1759218604441
            ·rw [if_pos c21] at H
             have LMc21 := Aside0.mk c21
             clear c21
             obtain ⟨y205, hy205⟩ : ∃ y_ : List (S68), y_ = (y202 ++ [(⟨(wrap64 (98 + (wrap64 (8 * x5_3)))) % 256, (⟨5, 0, 4, false, false⟩ : S59), 1, 0, 3, 3, 0⟩ : S68)]) := ⟨_, rfl⟩
             replace H : (if y205.length < 1759218604441 then (stockaderef02_Rows.l2 k3 (y205 ++ [(⟨(wrap64 (99 + (wrap64 (8 * x5_3)))) % 256, (⟨4, 0, 4, false, false⟩ : S59), 1, 1, 3, 0, 0⟩ : S68)]) (wrap64 (x5_3 + 1))) else (none)) = some r := by first | (rw [hy205]; with_reducible exact H) | (have H2_ := (Option.bind_some _ _).symm.trans H; rw [hy205]; with_reducible exact H2_) | (have H2_ := (Option.bind_some _ _).symm.trans H; with_reducible exact H2_) | with_reducible exact H | (rw [hy205]; exact H) | exact H
             have Ny205 := Aside0.mk hy205
             clear hy205
             by_cases c22 : y205.length < 1759218604441
             ·rw [if_pos c22] at H
              have LMc22 := Aside0.mk c22
              clear c22
              obtain ⟨y208, hy208⟩ : ∃ y_ : List (S68), y_ = (y205 ++ [(⟨(wrap64 (99 + (wrap64 (8 * x5_3)))) % 256, (⟨4, 0, 4, false, false⟩ : S59), 1, 1, 3, 0, 0⟩ : S68)]) := ⟨_, rfl⟩
              replace H : (stockaderef02_Rows.l2 k3 y208 (wrap64 (x5_3 + 1))) = some r := by first | (rw [hy208]; with_reducible exact H) | (have H2_ := (Option.bind_some _ _).symm.trans H; rw [hy208]; with_reducible exact H2_) | (have H2_ := (Option.bind_some _ _).symm.trans H; with_reducible exact H2_) | with_reducible exact H | (rw [hy208]; exact H) | exact H
              have Ny208 := Aside0.mk hy208
              clear hy208
              have H' := Aside0.mk H
              clear H
              go_wp2_with (first | ((with_reducible refine gate_builtin (b := .append) (xs := #[.tmp 81, .tmp 89]) rfl ?_); at_builtin; refine Kd.R_append k68 (w0 := w) w.heap.size rfl (.tmp 81) (.tmp 89) 74 68 (.agg #[(.int .u8 0), (.int .i64 0), (.int .i64 0), (.int .i64 0), (.bool false), (.bool false), (.int .i64 0), (.int .i64 0), (.int .i64 0), (.int .i64 0), (.int .i64 0)]) 80 rfl Tryd.underlying74 info68 rfl (by decide) (by omega) u1 x1_3 (⟨(wrap64 (97 + (wrap64 (8 * x5_3)))) % 256, (⟨3, 0, 4, false, false⟩ : S59), 2, 1, 3, 0, 0⟩ : S68) [.int .u8 ((wrap64 (97 + (wrap64 (8 * x5_3)))) % 256), .int .i64 3, .int .i64 0, .int .i64 4, .bool false, .bool false, .int .i64 2, .int .i64 1, .int .i64 3, .int .i64 0, .int .i64 0] (fun _ => True) (fun _ => False) rfl rfl ?aP (fun _ hk => hk.elim) ?aF ?aO ?aB ?aS ?aL ?_; (case aP => exact k68_mkM _ _ _ (⟨(wrap64 (97 + (wrap64 (8 * x5_3)))) % 256, (⟨3, 0, 4, false, false⟩ : S59), 2, 1, 3, 0, 0⟩ : S68)); (case aB => exact b_now); (case aF => exact (fun _ _ => trivial)); (case aO => exact (by (with_reducible repeat (first | apply Kd.R_alloc | apply Kd.R_drewN | apply Kd.R_drew)); exact HO_1.out)); (case aS => exact (below_size b_now)); (case aL => have := LMc20.out; omega); intro v203 w23 ho hb hg hat; rw [← Ny202.out] at ho; have n0_ := Aside0.mk (hb); have n1_ := Aside0.mk (ho); clear HB; clear HO_1; have HB := n0_; have HO204 := n1_; clear n0_ n1_; clear ho hb hg hat) | ((with_reducible refine gate_builtin (b := .append) (xs := #[.tmp 91, .tmp 99]) rfl ?_); at_builtin; refine Kd.R_append k68 (w0 := w) w.heap.size rfl (.tmp 91) (.tmp 99) 74 68 (.agg #[(.int .u8 0), (.int .i64 0), (.int .i64 0), (.int .i64 0), (.bool false), (.bool false), (.int .i64 0), (.int .i64 0), (.int .i64 0), (.int .i64 0), (.int .i64 0)]) 80 rfl Tryd.underlying74 info68 rfl (by decide) (by omega) v203 y202 (⟨(wrap64 (98 + (wrap64 (8 * x5_3)))) % 256, (⟨5, 0, 4, false, false⟩ : S59), 1, 0, 3, 3, 0⟩ : S68) [.int .u8 ((wrap64 (98 + (wrap64 (8 * x5_3)))) % 256), .int .i64 5, .int .i64 0, .int .i64 4, .bool false, .bool false, .int .i64 1, .int .i64 0, .int .i64 3, .int .i64 3, .int .i64 0] (fun _ => True) (fun _ => False) rfl rfl ?aP (fun _ hk => hk.elim) ?aF ?aO ?aB ?aS ?aL ?_; (case aP => exact k68_mkM _ _ _ (⟨(wrap64 (98 + (wrap64 (8 * x5_3)))) % 256, (⟨5, 0, 4, false, false⟩ : S59), 1, 0, 3, 3, 0⟩ : S68)); (case aB => exact b_now); (case aF => exact (fun _ _ => trivial)); (case aO => exact (by (with_reducible repeat (first | apply Kd.R_alloc | apply Kd.R_drewN | apply Kd.R_drew)); exact HO204.out)); (case aS => exact (below_size b_now)); (case aL => have := LMc21.out; omega); intro v206 w24 ho hb hg hat; rw [← Ny205.out] at ho; have n0_ := Aside0.mk (hb); have n1_ := Aside0.mk (ho); clear HB; clear HO204; have HB := n0_; have HO207 := n1_; clear n0_ n1_; clear ho hb hg hat) | ((with_reducible refine gate_builtin (b := .append) (xs := #[.tmp 101, .tmp 109]) rfl ?_); at_builtin; refine Kd.R_append k68 (w0 := w) w.heap.size rfl (.tmp 101) (.tmp 109) 74 68 (.agg #[(.int .u8 0), (.int .i64 0), (.int .i64 0), (.int .i64 0), (.bool false), (.bool false), (.int .i64 0), (.int .i64 0), (.int .i64 0), (.int .i64 0), (.int .i64 0)]) 80 rfl Tryd.underlying74 info68 rfl (by decide) (by omega) v206 y205 (⟨(wrap64 (99 + (wrap64 (8 * x5_3)))) % 256, (⟨4, 0, 4, false, false⟩ : S59), 1, 1, 3, 0, 0⟩ : S68) [.int .u8 ((wrap64 (99 + (wrap64 (8 * x5_3)))) % 256), .int .i64 4, .int .i64 0, .int .i64 4, .bool false, .bool false, .int .i64 1, .int .i64 1, .int .i64 3, .int .i64 0, .int .i64 0] (fun _ => True) (fun _ => False) rfl rfl ?aP (fun _ hk => hk.elim) ?aF ?aO ?aB ?aS ?aL ?_; (case aP => exact k68_mkM _ _ _ (⟨(wrap64 (99 + (wrap64 (8 * x5_3)))) % 256, (⟨4, 0, 4, false, false⟩ : S59), 1, 1, 3, 0, 0⟩ : S68)); (case aB => exact b_now); (case aF => exact (fun _ _ => trivial)); (case aO => exact (by (with_reducible repeat (first | apply Kd.R_alloc | apply Kd.R_drewN | apply Kd.R_drew)); exact HO207.out)); (case aS => exact (below_size b_now)); (case aL => have := LMc22.out; omega); intro v209 w25 ho hb hg hat; rw [← Ny208.out] at ho; have n0_ := Aside0.mk (hb); have n1_ := Aside0.mk (ho); clear HB; clear HO207; have HB := n0_; have HO210 := n1_; clear n0_ n1_; clear ho hb hg hat))
              go_roundg k3
              case measure => have := HK1.out; have := HK2.out; have := HK3.out; omega
              case rel => exact ⟨(y208), (wrap64 (x5_3 + 1)), eq_now, H', ⟨by have := HK1.out; have := HK2.out; have := HK3.out; omega⟩, ⟨by (with_reducible repeat (first | apply Kd.R_alloc | apply Kd.R_drewN | apply Kd.R_drew)); exact HO210.out⟩, ⟨b_now⟩⟩
             ·rw [if_neg c22] at H
              exact absurd H (by simp)
            ·rw [if_neg c21] at H
             exact absurd H (by simp)
           ·rw [if_neg c20] at H
            exact absurd H (by simp)
          ·rw [if_neg c19] at H
           have c19b0 : (x5_3 == 0) = false := beq_eq_false_iff_ne.mpr c19
           have c19b1 : (x5_3 != 0) = true := bne_iff_ne.mpr c19
           by_cases c26 : x5_3 = 1
           ·rw [if_pos c26] at H
            have c26b0 : (x5_3 == 1) = true := beq_iff_eq.mpr c26
            have c26b1 : (x5_3 != 1) = false := bne_eq_false_iff_eq.mpr c26
            clear c26
            by_cases c27 : x1_3.length < 1759218604441
            ·rw [if_pos c27] at H
             have LMc27 := Aside0.mk c27
             clear c27
             obtain ⟨y211, hy211⟩ : ∃ y_ : List (S68), y_ = (x1_3 ++ [(⟨(wrap64 (97 + (wrap64 (8 * x5_3)))) % 256, (⟨3, 0, 2, false, false⟩ : S59), 2, 1, 3, 0, 0⟩ : S68)]) := ⟨_, rfl⟩
             replace H : (if y211.length < 1759218604441 then ((some (y211 ++ [(⟨(wrap64 (98 + (wrap64 (8 * x5_3)))) % 256, (⟨5, 0, 2, false, false⟩ : S59), 1, 0, 3, 3, 0⟩ : S68)] : List (S68))).bind fun y214 => (if y214.length < 1759218604441 then (stockaderef02_Rows.l2 k3 (y214 ++ [(⟨(wrap64 (99 + (wrap64 (8 * x5_3)))) % 256, (⟨4, 0, 2, false, false⟩ : S59), 1, 1, 3, 0, 0⟩ : S68)]) (wrap64 (x5_3 + 1))) else (none))) else (none)) = some r := by first | (rw [hy211]; with_reducible exact H) | (have H2_ := (Option.bind_some _ _).symm.trans H; rw [hy211]; with_reducible exact H2_) | (have H2_ := (Option.bind_some _ _).symm.trans H; with_reducible exact H2_) | with_reducible exact H | (rw [hy211]; exact H) | exact H
             have Ny211 := Aside0.mk hy211
             clear hy211
             by_cases c28 : y211.length < 1759218604441
             ·rw [if_pos c28] at H
              have LMc28 := Aside0.mk c28
              clear c28
              obtain ⟨y214, hy214⟩ : ∃ y_ : List (S68), y_ = (y211 ++ [(⟨(wrap64 (98 + (wrap64 (8 * x5_3)))) % 256, (⟨5, 0, 2, false, false⟩ : S59), 1, 0, 3, 3, 0⟩ : S68)]) := ⟨_, rfl⟩
              replace H : (if y214.length < 1759218604441 then (stockaderef02_Rows.l2 k3 (y214 ++ [(⟨(wrap64 (99 + (wrap64 (8 * x5_3)))) % 256, (⟨4, 0, 2, false, false⟩ : S59), 1, 1, 3, 0, 0⟩ : S68)]) (wrap64 (x5_3 + 1))) else (none)) = some r := by first | (rw [hy214]; with_reducible exact H) | (have H2_ := (Option.bind_some _ _).symm.trans H; rw [hy214]; with_reducible exact H2_) | (have H2_ := (Option.bind_some _ _).symm.trans H; with_reducible exact H2_) | with_reducible exact H | (rw [hy214]; exact H) | exact H
              have Ny214 := Aside0.mk hy214
              clear hy214
              by_cases c29 : y214.length < 1759218604441
              ·rw [if_pos c29] at H
               have LMc29 := Aside0.mk c29
               clear c29
               obtain ⟨y217, hy217⟩ : ∃ y_ : List (S68), y_ = (y214 ++ [(⟨(wrap64 (99 + (wrap64 (8 * x5_3)))) % 256, (⟨4, 0, 2, false, false⟩ : S59), 1, 1, 3, 0, 0⟩ : S68)]) := ⟨_, rfl⟩
               replace H : (stockaderef02_Rows.l2 k3 y217 (wrap64 (x5_3 + 1))) = some r := by first | (rw [hy217]; with_reducible exact H) | (have H2_ := (Option.bind_some _ _).symm.trans H; rw [hy217]; with_reducible exact H2_) | (have H2_ := (Option.bind_some _ _).symm.trans H; with_reducible exact H2_) | with_reducible exact H | (rw [hy217]; exact H) | exact H
               have Ny217 := Aside0.mk hy217
               clear hy217
               have H' := Aside0.mk H
               clear H
               go_wp2_with (first | ((with_reducible refine gate_builtin (b := .append) (xs := #[.tmp 81, .tmp 89]) rfl ?_); at_builtin; refine Kd.R_append k68 (w0 := w) w.heap.size rfl (.tmp 81) (.tmp 89) 74 68 (.agg #[(.int .u8 0), (.int .i64 0), (.int .i64 0), (.int .i64 0), (.bool false), (.bool false), (.int .i64 0), (.int .i64 0), (.int .i64 0), (.int .i64 0), (.int .i64 0)]) 80 rfl Tryd.underlying74 info68 rfl (by decide) (by omega) u1 x1_3 (⟨(wrap64 (97 + (wrap64 (8 * x5_3)))) % 256, (⟨3, 0, 2, false, false⟩ : S59), 2, 1, 3, 0, 0⟩ : S68) [.int .u8 ((wrap64 (97 + (wrap64 (8 * x5_3)))) % 256), .int .i64 3, .int .i64 0, .int .i64 2, .bool false, .bool false, .int .i64 2, .int .i64 1, .int .i64 3, .int .i64 0, .int .i64 0] (fun _ => True) (fun _ => False) rfl rfl ?aP (fun _ hk => hk.elim) ?aF ?aO ?aB ?aS ?aL ?_; (case aP => exact k68_mkM _ _ _ (⟨(wrap64 (97 + (wrap64 (8 * x5_3)))) % 256, (⟨3, 0, 2, false, false⟩ : S59), 2, 1, 3, 0, 0⟩ : S68)); (case aB => exact b_now); (case aF => exact (fun _ _ => trivial)); (case aO => exact (by (with_reducible repeat (first | apply Kd.R_alloc | apply Kd.R_drewN | apply Kd.R_drew)); exact HO_1.out)); (case aS => exact (below_size b_now)); (case aL => have := LMc27.out; omega); intro v212 w30 ho hb hg hat; rw [← Ny211.out] at ho; have n0_ := Aside0.mk (hb); have n1_ := Aside0.mk (ho); clear HB; clear HO_1; have HB := n0_; have HO213 := n1_; clear n0_ n1_; clear ho hb hg hat) | ((with_reducible refine gate_builtin (b := .append) (xs := #[.tmp 91, .tmp 99]) rfl ?_); at_builtin; refine Kd.R_append k68 (w0 := w) w.heap.size rfl (.tmp 91) (.tmp 99) 74 68 (.agg #[(.int .u8 0), (.int .i64 0), (.int .i64 0), (.int .i64 0), (.bool false), (.bool false), (.int .i64 0), (.int .i64 0), (.int .i64 0), (.int .i64 0), (.int .i64 0)]) 80 rfl Tryd.underlying74 info68 rfl (by decide) (by omega) v212 y211 (⟨(wrap64 (98 + (wrap64 (8 * x5_3)))) % 256, (⟨5, 0, 2, false, false⟩ : S59), 1, 0, 3, 3, 0⟩ : S68) [.int .u8 ((wrap64 (98 + (wrap64 (8 * x5_3)))) % 256), .int .i64 5, .int .i64 0, .int .i64 2, .bool false, .bool false, .int .i64 1, .int .i64 0, .int .i64 3, .int .i64 3, .int .i64 0] (fun _ => True) (fun _ => False) rfl rfl ?aP (fun _ hk => hk.elim) ?aF ?aO ?aB ?aS ?aL ?_; (case aP => exact k68_mkM _ _ _ (⟨(wrap64 (98 + (wrap64 (8 * x5_3)))) % 256, (⟨5, 0, 2, false, false⟩ : S59), 1, 0, 3, 3, 0⟩ : S68)); (case aB => exact b_now); (case aF => exact (fun _ _ => trivial)); (case aO => exact (by (with_reducible repeat (first | apply Kd.R_alloc | apply Kd.R_drewN | apply Kd.R_drew)); exact HO213.out)); (case aS => exact (below_size b_now)); (case aL => have := LMc28.out; omega); intro v215 w31 ho hb hg hat; rw [← Ny214.out] at ho; have n0_ := Aside0.mk (hb); have n1_ := Aside0.mk (ho); clear HB; clear HO213; have HB := n0_; have HO216 := n1_; clear n0_ n1_; clear ho hb hg hat) | ((with_reducible refine gate_builtin (b := .append) (xs := #[.tmp 101, .tmp 109]) rfl ?_); at_builtin; refine Kd.R_append k68 (w0 := w) w.heap.size rfl (.tmp 101) (.tmp 109) 74 68 (.agg #[(.int .u8 0), (.int .i64 0), (.int .i64 0), (.int .i64 0), (.bool false), (.bool false), (.int .i64 0), (.int .i64 0), (.int .i64 0), (.int .i64 0), (.int .i64 0)]) 80 rfl Tryd.underlying74 info68 rfl (by decide) (by omega) v215 y214 (⟨(wrap64 (99 + (wrap64 (8 * x5_3)))) % 256, (⟨4, 0, 2, false, false⟩ : S59), 1, 1, 3, 0, 0⟩ : S68) [.int .u8 ((wrap64 (99 + (wrap64 (8 * x5_3)))) % 256), .int .i64 4, .int .i64 0, .int .i64 2, .bool false, .bool false, .int .i64 1, .int .i64 1, .int .i64 3, .int .i64 0, .int .i64 0] (fun _ => True) (fun _ => False) rfl rfl ?aP (fun _ hk => hk.elim) ?aF ?aO ?aB ?aS ?aL ?_; (case aP => exact k68_mkM _ _ _ (⟨(wrap64 (99 + (wrap64 (8 * x5_3)))) % 256, (⟨4, 0, 2, false, false⟩ : S59), 1, 1, 3, 0, 0⟩ : S68)); (case aB => exact b_now); (case aF => exact (fun _ _ => trivial)); (case aO => exact (by (with_reducible repeat (first | apply Kd.R_alloc | apply Kd.R_drewN | apply Kd.R_drew)); exact HO216.out)); (case aS => exact (below_size b_now)); (case aL => have := LMc29.out; omega); intro v218 w32 ho hb hg hat; rw [← Ny217.out] at ho; have n0_ := Aside0.mk (hb); have n1_ := Aside0.mk (ho); clear HB; clear HO216; have HB := n0_; have HO219 := n1_; clear n0_ n1_; clear ho hb hg hat))
               go_roundg k3
               case measure => have := HK1.out; have := HK2.out; have := HK3.out; omega
               case rel => exact ⟨(y217), (wrap64 (x5_3 + 1)), eq_now, H', ⟨by have := HK1.out; have := HK2.out; have := HK3.out; omega⟩, ⟨by (with_reducible repeat (first | apply Kd.R_alloc | apply Kd.R_drewN | apply Kd.R_drew)); exact HO219.out⟩, ⟨b_now⟩⟩
              ·rw [if_neg c29] at H
               exact absurd H (by simp)
             ·rw [if_neg c28] at H
              exact absurd H (by simp)
            ·rw [if_neg c27] at H
             exact absurd H (by simp)
           ·rw [if_neg c26] at H
            have c26b0 : (x5_3 == 1) = false := beq_eq_false_iff_ne.mpr c26
            have c26b1 : (x5_3 != 1) = true := bne_iff_ne.mpr c26
            by_cases c33 : x5_3 = 2
            ·rw [if_pos c33] at H
             have c33b0 : (x5_3 == 2) = true := beq_iff_eq.mpr c33
             have c33b1 : (x5_3 != 2) = false := bne_eq_false_iff_eq.mpr c33
             clear c33
             by_cases c34 : x1_3.length < 1759218604441
             ·rw [if_pos c34] at H
              have LMc34 := Aside0.mk c34
              clear c34
              obtain ⟨y220, hy220⟩ : ∃ y_ : List (S68), y_ = (x1_3 ++ [(⟨(wrap64 (97 + (wrap64 (8 * x5_3)))) % 256, (⟨3, 0, 1, false, false⟩ : S59), 2, 1, 3, 0, 0⟩ : S68)]) := ⟨_, rfl⟩
              replace H : (if y220.length < 1759218604441 then ((some (y220 ++ [(⟨(wrap64 (98 + (wrap64 (8 * x5_3)))) % 256, (⟨5, 0, 1, false, false⟩ : S59), 1, 0, 3, 3, 0⟩ : S68)] : List (S68))).bind fun y223 => (if y223.length < 1759218604441 then (stockaderef02_Rows.l2 k3 (y223 ++ [(⟨(wrap64 (99 + (wrap64 (8 * x5_3)))) % 256, (⟨4, 0, 1, false, false⟩ : S59), 1, 1, 3, 0, 0⟩ : S68)]) (wrap64 (x5_3 + 1))) else (none))) else (none)) = some r := by first | (rw [hy220]; with_reducible exact H) | (have H2_ := (Option.bind_some _ _).symm.trans H; rw [hy220]; with_reducible exact H2_) | (have H2_ := (Option.bind_some _ _).symm.trans H; with_reducible exact H2_) | with_reducible exact H | (rw [hy220]; exact H) | exact H
              have Ny220 := Aside0.mk hy220
              clear hy220
              by_cases c35 : y220.length < 1759218604441
              ·rw [if_pos c35] at H
               have LMc35 := Aside0.mk c35
               clear c35
               obtain ⟨y223, hy223⟩ : ∃ y_ : List (S68), y_ = (y220 ++ [(⟨(wrap64 (98 + (wrap64 (8 * x5_3)))) % 256, (⟨5, 0, 1, false, false⟩ : S59), 1, 0, 3, 3, 0⟩ : S68)]) := ⟨_, rfl⟩
               replace H : (if y223.length < 1759218604441 then (stockaderef02_Rows.l2 k3 (y223 ++ [(⟨(wrap64 (99 + (wrap64 (8 * x5_3)))) % 256, (⟨4, 0, 1, false, false⟩ : S59), 1, 1, 3, 0, 0⟩ : S68)]) (wrap64 (x5_3 + 1))) else (none)) = some r := by first | (rw [hy223]; with_reducible exact H) | (have H2_ := (Option.bind_some _ _).symm.trans H; rw [hy223]; with_reducible exact H2_) | (have H2_ := (Option.bind_some _ _).symm.trans H; with_reducible exact H2_) | with_reducible exact H | (rw [hy223]; exact H) | exact H
               have Ny223 := Aside0.mk hy223
               clear hy223
               by_cases c36 : y223.length < 1759218604441
               ·rw [if_pos c36] at H
                have LMc36 := Aside0.mk c36
                clear c36
                obtain ⟨y226, hy226⟩ : ∃ y_ : List (S68), y_ = (y223 ++ [(⟨(wrap64 (99 + (wrap64 (8 * x5_3)))) % 256, (⟨4, 0, 1, false, false⟩ : S59), 1, 1, 3, 0, 0⟩ : S68)]) := ⟨_, rfl⟩
                replace H : (stockaderef02_Rows.l2 k3 y226 (wrap64 (x5_3 + 1))) = some r := by first | (rw [hy226]; with_reducible exact H) | (have H2_ := (Option.bind_some _ _).symm.trans H; rw [hy226]; with_reducible exact H2_) | (have H2_ := (Option.bind_some _ _).symm.trans H; with_reducible exact H2_) | with_reducible exact H | (rw [hy226]; exact H) | exact H
                have Ny226 := Aside0.mk hy226
                clear hy226
                have H' := Aside0.mk H
                clear H
                go_wp2_with (first | ((with_reducible refine gate_builtin (b := .append) (xs := #[.tmp 81, .tmp 89]) rfl ?_); at_builtin; refine Kd.R_append k68 (w0 := w) w.heap.size rfl (.tmp 81) (.tmp 89) 74 68 (.agg #[(.int .u8 0), (.int .i64 0), (.int .i64 0), (.int .i64 0), (.bool false), (.bool false), (.int .i64 0), (.int .i64 0), (.int .i64 0), (.int .i64 0), (.int .i64 0)]) 80 rfl Tryd.underlying74 info68 rfl (by decide) (by omega) u1 x1_3 (⟨(wrap64 (97 + (wrap64 (8 * x5_3)))) % 256, (⟨3, 0, 1, false, false⟩ : S59), 2, 1, 3, 0, 0⟩ : S68) [.int .u8 ((wrap64 (97 + (wrap64 (8 * x5_3)))) % 256), .int .i64 3, .int .i64 0, .int .i64 1, .bool false, .bool false, .int .i64 2, .int .i64 1, .int .i64 3, .int .i64 0, .int .i64 0] (fun _ => True) (fun _ => False) rfl rfl ?aP (fun _ hk => hk.elim) ?aF ?aO ?aB ?aS ?aL ?_; (case aP => exact k68_mkM _ _ _ (⟨(wrap64 (97 + (wrap64 (8 * x5_3)))) % 256, (⟨3, 0, 1, false, false⟩ : S59), 2, 1, 3, 0, 0⟩ : S68)); (case aB => exact b_now); (case aF => exact (fun _ _ => trivial)); (case aO => exact (by (with_reducible repeat (first | apply Kd.R_alloc | apply Kd.R_drewN | apply Kd.R_drew)); exact HO_1.out)); (case aS => exact (below_size b_now)); (case aL => have := LMc34.out; omega); intro v221 w37 ho hb hg hat; rw [← Ny220.out] at ho; have n0_ := Aside0.mk (hb); have n1_ := Aside0.mk (ho); clear HB; clear HO_1; have HB := n0_; have HO222 := n1_; clear n0_ n1_; clear ho hb hg hat) | ((with_reducible refine gate_builtin (b := .append) (xs := #[.tmp 91, .tmp 99]) rfl ?_); at_builtin; refine Kd.R_append k68 (w0 := w) w.heap.size rfl (.tmp 91) (.tmp 99) 74 68 (.agg #[(.int .u8 0), (.int .i64 0), (.int .i64 0), (.int .i64 0), (.bool false), (.bool false), (.int .i64 0), (.int .i64 0), (.int .i64 0), (.int .i64 0), (.int .i64 0)]) 80 rfl Tryd.underlying74 info68 rfl (by decide) (by omega) v221 y220 (⟨(wrap64 (98 + (wrap64 (8 * x5_3)))) % 256, (⟨5, 0, 1, false, false⟩ : S59), 1, 0, 3, 3, 0⟩ : S68) [.int .u8 ((wrap64 (98 + (wrap64 (8 * x5_3)))) % 256), .int .i64 5, .int .i64 0, .int .i64 1, .bool false, .bool false, .int .i64 1, .int .i64 0, .int .i64 3, .int .i64 3, .int .i64 0] (fun _ => True) (fun _ => False) rfl rfl ?aP (fun _ hk => hk.elim) ?aF ?aO ?aB ?aS ?aL ?_; (case aP => exact k68_mkM _ _ _ (⟨(wrap64 (98 + (wrap64 (8 * x5_3)))) % 256, (⟨5, 0, 1, false, false⟩ : S59), 1, 0, 3, 3, 0⟩ : S68)); (case aB => exact b_now); (case aF => exact (fun _ _ => trivial)); (case aO => exact (by (with_reducible repeat (first | apply Kd.R_alloc | apply Kd.R_drewN | apply Kd.R_drew)); exact HO222.out)); (case aS => exact (below_size b_now)); (case aL => have := LMc35.out; omega); intro v224 w38 ho hb hg hat; rw [← Ny223.out] at ho; have n0_ := Aside0.mk (hb); have n1_ := Aside0.mk (ho); clear HB; clear HO222; have HB := n0_; have HO225 := n1_; clear n0_ n1_; clear ho hb hg hat) | ((with_reducible refine gate_builtin (b := .append) (xs := #[.tmp 101, .tmp 109]) rfl ?_); at_builtin; refine Kd.R_append k68 (w0 := w) w.heap.size rfl (.tmp 101) (.tmp 109) 74 68 (.agg #[(.int .u8 0), (.int .i64 0), (.int .i64 0), (.int .i64 0), (.bool false), (.bool false), (.int .i64 0), (.int .i64 0), (.int .i64 0), (.int .i64 0), (.int .i64 0)]) 80 rfl Tryd.underlying74 info68 rfl (by decide) (by omega) v224 y223 (⟨(wrap64 (99 + (wrap64 (8 * x5_3)))) % 256, (⟨4, 0, 1, false, false⟩ : S59), 1, 1, 3, 0, 0⟩ : S68) [.int .u8 ((wrap64 (99 + (wrap64 (8 * x5_3)))) % 256), .int .i64 4, .int .i64 0, .int .i64 1, .bool false, .bool false, .int .i64 1, .int .i64 1, .int .i64 3, .int .i64 0, .int .i64 0] (fun _ => True) (fun _ => False) rfl rfl ?aP (fun _ hk => hk.elim) ?aF ?aO ?aB ?aS ?aL ?_; (case aP => exact k68_mkM _ _ _ (⟨(wrap64 (99 + (wrap64 (8 * x5_3)))) % 256, (⟨4, 0, 1, false, false⟩ : S59), 1, 1, 3, 0, 0⟩ : S68)); (case aB => exact b_now); (case aF => exact (fun _ _ => trivial)); (case aO => exact (by (with_reducible repeat (first | apply Kd.R_alloc | apply Kd.R_drewN | apply Kd.R_drew)); exact HO225.out)); (case aS => exact (below_size b_now)); (case aL => have := LMc36.out; omega); intro v227 w39 ho hb hg hat; rw [← Ny226.out] at ho; have n0_ := Aside0.mk (hb); have n1_ := Aside0.mk (ho); clear HB; clear HO225; have HB := n0_; have HO228 := n1_; clear n0_ n1_; clear ho hb hg hat))
                go_roundg k3
                case measure => have := HK1.out; have := HK2.out; have := HK3.out; omega
                case rel => exact ⟨(y226), (wrap64 (x5_3 + 1)), eq_now, H', ⟨by have := HK1.out; have := HK2.out; have := HK3.out; omega⟩, ⟨by (with_reducible repeat (first | apply Kd.R_alloc | apply Kd.R_drewN | apply Kd.R_drew)); exact HO228.out⟩, ⟨b_now⟩⟩
               ·rw [if_neg c36] at H
                exact absurd H (by simp)
              ·rw [if_neg c35] at H
               exact absurd H (by simp)
             ·rw [if_neg c34] at H
              exact absurd H (by simp)
            ·rw [if_neg c33] at H
             have c33b0 : (x5_3 == 2) = false := beq_eq_false_iff_ne.mpr c33
             have c33b1 : (x5_3 != 2) = true := bne_iff_ne.mpr c33
             by_cases c40 : x1_3.length < 1759218604441
             ·rw [if_pos c40] at H
              have LMc40 := Aside0.mk c40
              clear c40
              obtain ⟨y229, hy229⟩ : ∃ y_ : List (S68), y_ = (x1_3 ++ [(⟨(wrap64 (97 + (wrap64 (8 * x5_3)))) % 256, (⟨3, 0, 8, false, false⟩ : S59), 2, 1, 3, 0, 0⟩ : S68)]) := ⟨_, rfl⟩
              replace H : (if y229.length < 1759218604441 then ((some (y229 ++ [(⟨(wrap64 (98 + (wrap64 (8 * x5_3)))) % 256, (⟨5, 0, 8, false, false⟩ : S59), 1, 0, 3, 3, 0⟩ : S68)] : List (S68))).bind fun y232 => (if y232.length < 1759218604441 then (stockaderef02_Rows.l2 k3 (y232 ++ [(⟨(wrap64 (99 + (wrap64 (8 * x5_3)))) % 256, (⟨4, 0, 8, false, false⟩ : S59), 1, 1, 3, 0, 0⟩ : S68)]) (wrap64 (x5_3 + 1))) else (none))) else (none)) = some r := by first | (rw [hy229]; with_reducible exact H) | (have H2_ := (Option.bind_some _ _).symm.trans H; rw [hy229]; with_reducible exact H2_) | (have H2_ := (Option.bind_some _ _).symm.trans H; with_reducible exact H2_) | with_reducible exact H | (rw [hy229]; exact H) | exact H
              have Ny229 := Aside0.mk hy229
              clear hy229
              by_cases c41 : y229.length < 1759218604441
              ·rw [if_pos c41] at H
               have LMc41 := Aside0.mk c41
               clear c41
               obtain ⟨y232, hy232⟩ : ∃ y_ : List (S68), y_ = (y229 ++ [(⟨(wrap64 (98 + (wrap64 (8 * x5_3)))) % 256, (⟨5, 0, 8, false, false⟩ : S59), 1, 0, 3, 3, 0⟩ : S68)]) := ⟨_, rfl⟩
               replace H : (if y232.length < 1759218604441 then (stockaderef02_Rows.l2 k3 (y232 ++ [(⟨(wrap64 (99 + (wrap64 (8 * x5_3)))) % 256, (⟨4, 0, 8, false, false⟩ : S59), 1, 1, 3, 0, 0⟩ : S68)]) (wrap64 (x5_3 + 1))) else (none)) = some r := by first | (rw [hy232]; with_reducible exact H) | (have H2_ := (Option.bind_some _ _).symm.trans H; rw [hy232]; with_reducible exact H2_) | (have H2_ := (Option.bind_some _ _).symm.trans H; with_reducible exact H2_) | with_reducible exact H | (rw [hy232]; exact H) | exact H
               have Ny232 := Aside0.mk hy232
               clear hy232
               by_cases c42 : y232.length < 1759218604441
               ·rw [if_pos c42] at H
                have LMc42 := Aside0.mk c42
                clear c42
                obtain ⟨y235, hy235⟩ : ∃ y_ : List (S68), y_ = (y232 ++ [(⟨(wrap64 (99 + (wrap64 (8 * x5_3)))) % 256, (⟨4, 0, 8, false, false⟩ : S59), 1, 1, 3, 0, 0⟩ : S68)]) := ⟨_, rfl⟩
                replace H : (stockaderef02_Rows.l2 k3 y235 (wrap64 (x5_3 + 1))) = some r := by first | (rw [hy235]; with_reducible exact H) | (have H2_ := (Option.bind_some _ _).symm.trans H; rw [hy235]; with_reducible exact H2_) | (have H2_ := (Option.bind_some _ _).symm.trans H; with_reducible exact H2_) | with_reducible exact H | (rw [hy235]; exact H) | exact H
                have Ny235 := Aside0.mk hy235
                clear hy235
                have H' := Aside0.mk H
                clear H
                go_wp2_with (first | ((with_reducible refine gate_builtin (b := .append) (xs := #[.tmp 81, .tmp 89]) rfl ?_); at_builtin; refine Kd.R_append k68 (w0 := w) w.heap.size rfl (.tmp 81) (.tmp 89) 74 68 (.agg #[(.int .u8 0), (.int .i64 0), (.int .i64 0), (.int .i64 0), (.bool false), (.bool false), (.int .i64 0), (.int .i64 0), (.int .i64 0), (.int .i64 0), (.int .i64 0)]) 80 rfl Tryd.underlying74 info68 rfl (by decide) (by omega) u1 x1_3 (⟨(wrap64 (97 + (wrap64 (8 * x5_3)))) % 256, (⟨3, 0, 8, false, false⟩ : S59), 2, 1, 3, 0, 0⟩ : S68) [.int .u8 ((wrap64 (97 + (wrap64 (8 * x5_3)))) % 256), .int .i64 3, .int .i64 0, .int .i64 8, .bool false, .bool false, .int .i64 2, .int .i64 1, .int .i64 3, .int .i64 0, .int .i64 0] (fun _ => True) (fun _ => False) rfl rfl ?aP (fun _ hk => hk.elim) ?aF ?aO ?aB ?aS ?aL ?_; (case aP => exact k68_mkM _ _ _ (⟨(wrap64 (97 + (wrap64 (8 * x5_3)))) % 256, (⟨3, 0, 8, false, false⟩ : S59), 2, 1, 3, 0, 0⟩ : S68)); (case aB => exact b_now); (case aF => exact (fun _ _ => trivial)); (case aO => exact (by (with_reducible repeat (first | apply Kd.R_alloc | apply Kd.R_drewN | apply Kd.R_drew)); exact HO_1.out)); (case aS => exact (below_size b_now)); (case aL => have := LMc40.out; omega); intro v230 w43 ho hb hg hat; rw [← Ny229.out] at ho; have n0_ := Aside0.mk (hb); have n1_ := Aside0.mk (ho); clear HB; clear HO_1; have HB := n0_; have HO231 := n1_; clear n0_ n1_; clear ho hb hg hat) | ((with_reducible refine gate_builtin (b := .append) (xs := #[.tmp 91, .tmp 99]) rfl ?_); at_builtin; refine Kd.R_append k68 (w0 := w) w.heap.size rfl (.tmp 91) (.tmp 99) 74 68 (.agg #[(.int .u8 0), (.int .i64 0), (.int .i64 0), (.int .i64 0), (.bool false), (.bool false), (.int .i64 0), (.int .i64 0), (.int .i64 0), (.int .i64 0), (.int .i64 0)]) 80 rfl Tryd.underlying74 info68 rfl (by decide) (by omega) v230 y229 (⟨(wrap64 (98 + (wrap64 (8 * x5_3)))) % 256, (⟨5, 0, 8, false, false⟩ : S59), 1, 0, 3, 3, 0⟩ : S68) [.int .u8 ((wrap64 (98 + (wrap64 (8 * x5_3)))) % 256), .int .i64 5, .int .i64 0, .int .i64 8, .bool false, .bool false, .int .i64 1, .int .i64 0, .int .i64 3, .int .i64 3, .int .i64 0] (fun _ => True) (fun _ => False) rfl rfl ?aP (fun _ hk => hk.elim) ?aF ?aO ?aB ?aS ?aL ?_; (case aP => exact k68_mkM _ _ _ (⟨(wrap64 (98 + (wrap64 (8 * x5_3)))) % 256, (⟨5, 0, 8, false, false⟩ : S59), 1, 0, 3, 3, 0⟩ : S68)); (case aB => exact b_now); (case aF => exact (fun _ _ => trivial)); (case aO => exact (by (with_reducible repeat (first | apply Kd.R_alloc | apply Kd.R_drewN | apply Kd.R_drew)); exact HO231.out)); (case aS => exact (below_size b_now)); (case aL => have := LMc41.out; omega); intro v233 w44 ho hb hg hat; rw [← Ny232.out] at ho; have n0_ := Aside0.mk (hb); have n1_ := Aside0.mk (ho); clear HB; clear HO231; have HB := n0_; have HO234 := n1_; clear n0_ n1_; clear ho hb hg hat) | ((with_reducible refine gate_builtin (b := .append) (xs := #[.tmp 101, .tmp 109]) rfl ?_); at_builtin; refine Kd.R_append k68 (w0 := w) w.heap.size rfl (.tmp 101) (.tmp 109) 74 68 (.agg #[(.int .u8 0), (.int .i64 0), (.int .i64 0), (.int .i64 0), (.bool false), (.bool false), (.int .i64 0), (.int .i64 0), (.int .i64 0), (.int .i64 0), (.int .i64 0)]) 80 rfl Tryd.underlying74 info68 rfl (by decide) (by omega) v233 y232 (⟨(wrap64 (99 + (wrap64 (8 * x5_3)))) % 256, (⟨4, 0, 8, false, false⟩ : S59), 1, 1, 3, 0, 0⟩ : S68) [.int .u8 ((wrap64 (99 + (wrap64 (8 * x5_3)))) % 256), .int .i64 4, .int .i64 0, .int .i64 8, .bool false, .bool false, .int .i64 1, .int .i64 1, .int .i64 3, .int .i64 0, .int .i64 0] (fun _ => True) (fun _ => False) rfl rfl ?aP (fun _ hk => hk.elim) ?aF ?aO ?aB ?aS ?aL ?_; (case aP => exact k68_mkM _ _ _ (⟨(wrap64 (99 + (wrap64 (8 * x5_3)))) % 256, (⟨4, 0, 8, false, false⟩ : S59), 1, 1, 3, 0, 0⟩ : S68)); (case aB => exact b_now); (case aF => exact (fun _ _ => trivial)); (case aO => exact (by (with_reducible repeat (first | apply Kd.R_alloc | apply Kd.R_drewN | apply Kd.R_drew)); exact HO234.out)); (case aS => exact (below_size b_now)); (case aL => have := LMc42.out; omega); intro v236 w45 ho hb hg hat; rw [← Ny235.out] at ho; have n0_ := Aside0.mk (hb); have n1_ := Aside0.mk (ho); clear HB; clear HO234; have HB := n0_; have HO237 := n1_; clear n0_ n1_; clear ho hb hg hat))
                go_roundg k3
                case measure => have := HK1.out; have := HK2.out; have := HK3.out; omega
                case rel => exact ⟨(y235), (wrap64 (x5_3 + 1)), eq_now, H', ⟨by have := HK1.out; have := HK2.out; have := HK3.out; omega⟩, ⟨by (with_reducible repeat (first | apply Kd.R_alloc | apply Kd.R_drewN | apply Kd.R_drew)); exact HO237.out⟩, ⟨b_now⟩⟩
               ·rw [if_neg c42] at H
                exact absurd H (by simp)
              ·rw [if_neg c41] at H
               exact absurd H (by simp)
             ·rw [if_neg c40] at H
              exact absurd H (by simp)
         ·rw [if_neg c18] at H
          have c18b0 : decide (x5_3 < 4) = false := decide_eq_false c18
          clear c18
          have H' := Aside0.mk H
          clear H
          go_wp2
          go_loopg [1, 7] k3 (fun kq v1 v7 w' => ∃ (x1_4 : List (S68)) (x7_4 : Int), v7 = .int .i64 x7_4 ∧ Aside0 (stockaderef02_Rows.l3 kq x1_4 x7_4 = some r) ∧ Aside0 (kq ≤ k3) ∧ Aside0 (Kd.R k68 68 w' w.heap.size (fun _ => True) v1 x1_4) ∧ Aside0 (Below w.heap.size w w'))
          case atStart => exact ⟨(x1_3), (1), eq_now, H', ⟨Nat.le_refl _⟩, ⟨by (with_reducible repeat (first | apply Kd.R_alloc | apply Kd.R_drewN | apply Kd.R_drew)); exact HO_1.out⟩, ⟨b_now⟩⟩
          case round =>
           clear H'
           try clear c1
           try clear c1b0
           try clear c2
           try clear c2b0
           try clear c2b1
           try clear p2
           try clear c3
           try clear c4
           try clear p6
           try clear c7
           try clear c8
           try clear c9
           try clear c10
           try clear c15
           try clear c15b0
           try clear c16
           try clear c18
           try clear c18b0
           try clear c19
           try clear c19b0
           try clear c19b1
           try clear c20
           try clear c21
           try clear c22
           try clear c26
           try clear c26b0
           try clear c26b1
           try clear c27
           try clear c28
           try clear c29
           try clear c33
           try clear c33b0
           try clear c33b1
           try clear c34
           try clear c35
           try clear c36
           try clear c38
           try clear c40
           try clear c41
           try clear c42
           try clear p2
           try clear p6
           obtain ⟨x1_4, x7_4, rfl, HA, HK4, HO_1, HB⟩ := hrel
           cases gk with
           | zero => exact absurd HA.out (by simp [stockaderef02_Rows.l3])
           | succ k4 =>
            have H := HA.out
            clear HA
            simp only [stockaderef02_Rows.l3] at H
            by_cases c46 : x7_4 ≤ 13
            ·rw [if_pos c46] at H
             have c46b0 : decide (x7_4 ≤ 13) = true := decide_eq_true c46
             clear c46
             by_cases c47 : x7_4 = 8
             ·rw [if_pos c47] at H
              have c47b0 : (x7_4 == 8) = true := beq_iff_eq.mpr c47
              have c47b1 : (x7_4 != 8) = false := bne_eq_false_iff_eq.mpr c47
              clear c47
              have H' := Aside0.mk H
              clear H
              go_wp2
              go_roundg k4
              case measure => have := HK1.out; have := HK2.out; have := HK3.out; have := HK4.out; omega
              case rel => exact ⟨(x1_4), (wrap64 (x7_4 + 1)), eq_now, H', ⟨by have := HK1.out; have := HK2.out; have := HK3.out; have := HK4.out; omega⟩, ⟨by (with_reducible repeat (first | apply Kd.R_alloc | apply Kd.R_drewN | apply Kd.R_drew)); exact HO_1.out⟩, ⟨b_now⟩⟩
             ·rw [if_neg c47] at H
              have c47b0 : (x7_4 == 8) = false := beq_eq_false_iff_ne.mpr c47
              have c47b1 : (x7_4 != 8) = true := bne_iff_ne.mpr c47
              by_cases c48 : x7_4 = 9
              ·rw [if_pos c48] at H
               have c48b0 : (x7_4 == 9) = true := beq_iff_eq.mpr c48
               have c48b1 : (x7_4 != 9) = false := bne_eq_false_iff_eq.mpr c48
               clear c48
               have H' := Aside0.mk H
               clear H
               go_wp2
               go_roundg k4
               case measure => have := HK1.out; have := HK2.out; have := HK3.out; have := HK4.out; omega
               case rel => exact ⟨(x1_4), (wrap64 (x7_4 + 1)), eq_now, H', ⟨by have := HK1.out; have := HK2.out; have := HK3.out; have := HK4.out; omega⟩, ⟨by (with_reducible repeat (first | apply Kd.R_alloc | apply Kd.R_drewN | apply Kd.R_drew)); exact HO_1.out⟩, ⟨b_now⟩⟩
              ·rw [if_neg c48] at H
               have c48b0 : (x7_4 == 9) = false := beq_eq_false_iff_ne.mpr c48
               have c48b1 : (x7_4 != 9) = true := bne_iff_ne.mpr c48
               by_cases c49 : x1_4.length < 1759218604441
               ·rw [if_pos c49] at H
                have LMc49 := Aside0.mk c49
                clear c49
                obtain ⟨y238, hy238⟩ : ∃ y_ : List (S68), y_ = (x1_4 ++ [(⟨(wrap64 ((wrap64 (16 * x7_4)) + 5)) % 256, (⟨6, x7_4, 0, true, false⟩ : S59), 1, 0, 3, 3, 0⟩ : S68)]) := ⟨_, rfl⟩
                replace H : (if y238.length < 1759218604441 then ((some (y238 ++ [(⟨(wrap64 ((wrap64 (16 * x7_4)) + 6)) % 256, (⟨6, x7_4, 0, false, false⟩ : S59), 1, 0, 3, 3, 0⟩ : S68)] : List (S68))).bind fun y241 => (if y241.length < 1759218604441 then ((some (y241 ++ [(⟨(wrap64 ((wrap64 (16 * x7_4)) + 13)) % 256, (⟨6, x7_4, 0, true, true⟩ : S59), 1, 1, 3, 0, 0⟩ : S68)] : List (S68))).bind fun y244 => (if y244.length < 1759218604441 then (stockaderef02_Rows.l3 k4 (y244 ++ [(⟨(wrap64 ((wrap64 (16 * x7_4)) + 14)) % 256, (⟨6, x7_4, 0, false, true⟩ : S59), 1, 1, 3, 0, 0⟩ : S68)]) (wrap64 (x7_4 + 1))) else (none))) else (none))) else (none)) = some r := by first | (rw [hy238]; with_reducible exact H) | (have H2_ := (Option.bind_some _ _).symm.trans H; rw [hy238]; with_reducible exact H2_) | (have H2_ := (Option.bind_some _ _).symm.trans H; with_reducible exact H2_) | with_reducible exact H | (rw [hy238]; exact H) | exact H
                have Ny238 := Aside0.mk hy238
                clear hy238
                by_cases c50 : y238.length < 1759218604441
                ·rw [if_pos c50] at H
                 have LMc50 := Aside0.mk c50
                 clear c50
                 obtain ⟨y241, hy241⟩ : ∃ y_ : List (S68), y_ = (y238 ++ [(⟨(wrap64 ((wrap64 (16 * x7_4)) + 6)) % 256, (⟨6, x7_4, 0, false, false⟩ : S59), 1, 0, 3, 3, 0⟩ : S68)]) := ⟨_, rfl⟩
                 replace H : (if y241.length < 1759218604441 then ((some (y241 ++ [(⟨(wrap64 ((wrap64 (16 * x7_4)) + 13)) % 256, (⟨6, x7_4, 0, true, true⟩ : S59), 1, 1, 3, 0, 0⟩ : S68)] : List (S68))).bind fun y244 => (if y244.length < 1759218604441 then (stockaderef02_Rows.l3 k4 (y244 ++ [(⟨(wrap64 ((wrap64 (16 * x7_4)) + 14)) % 256, (⟨6, x7_4, 0, false, true⟩ : S59), 1, 1, 3, 0, 0⟩ : S68)]) (wrap64 (x7_4 + 1))) else (none))) else (none)) = some r := by first | (rw [hy241]; with_reducible exact H) | (have H2_ := (Option.bind_some _ _).symm.trans H; rw [hy241]; with_reducible exact H2_) | (have H2_ := (Option.bind_some _ _).symm.trans H; with_reducible exact H2_) | with_reducible exact H | (rw [hy241]; exact H) | exact H
                 have Ny241 := Aside0.mk hy241
                 clear hy241
                 by_cases c51 : y241.length < 1759218604441
                 ·rw [if_pos c51] at H
                  have LMc51 := Aside0.mk c51
                  clear c51
                  obtain ⟨y244, hy244⟩ : ∃ y_ : List (S68), y_ = (y241 ++ [(⟨(wrap64 ((wrap64 (16 * x7_4)) + 13)) % 256, (⟨6, x7_4, 0, true, true⟩ : S59), 1, 1, 3, 0, 0⟩ : S68)]) := ⟨_, rfl⟩
                  replace H : (if y244.length < 1759218604441 then (stockaderef02_Rows.l3 k4 (y244 ++ [(⟨(wrap64 ((wrap64 (16 * x7_4)) + 14)) % 256, (⟨6, x7_4, 0, false, true⟩ : S59), 1, 1, 3, 0, 0⟩ : S68)]) (wrap64 (x7_4 + 1))) else (none)) = some r := by first | (rw [hy244]; with_reducible exact H) | (have H2_ := (Option.bind_some _ _).symm.trans H; rw [hy244]; with_reducible exact H2_) | (have H2_ := (Option.bind_some _ _).symm.trans H; with_reducible exact H2_) | with_reducible exact H | (rw [hy244]; exact H) | exact H
                  have Ny244 := Aside0.mk hy244
                  clear hy244
                  by_cases c52 : y244.length < 1759218604441
                  ·rw [if_pos c52] at H
                   have LMc52 := Aside0.mk c52
                   clear c52
                   obtain ⟨y247, hy247⟩ : ∃ y_ : List (S68), y_ = (y244 ++ [(⟨(wrap64 ((wrap64 (16 * x7_4)) + 14)) % 256, (⟨6, x7_4, 0, false, true⟩ : S59), 1, 1, 3, 0, 0⟩ : S68)]) := ⟨_, rfl⟩
                   replace H : (stockaderef02_Rows.l3 k4 y247 (wrap64 (x7_4 + 1))) = some r := by first | (rw [hy247]; with_reducible exact H) | (have H2_ := (Option.bind_some _ _).symm.trans H; rw [hy247]; with_reducible exact H2_) | (have H2_ := (Option.bind_some _ _).symm.trans H; with_reducible exact H2_) | with_reducible exact H | (rw [hy247]; exact H) | exact H
                   have Ny247 := Aside0.mk hy247
                   clear hy247
                   have H' := Aside0.mk H
                   clear H
                   go_wp2_with (first | ((with_reducible refine gate_builtin (b := .append) (xs := #[.tmp 121, .tmp 129]) rfl ?_); at_builtin; refine Kd.R_append k68 (w0 := w) w.heap.size rfl (.tmp 121) (.tmp 129) 74 68 (.agg #[(.int .u8 0), (.int .i64 0), (.int .i64 0), (.int .i64 0), (.bool false), (.bool false), (.int .i64 0), (.int .i64 0), (.int .i64 0), (.int .i64 0), (.int .i64 0)]) 80 rfl Tryd.underlying74 info68 rfl (by decide) (by omega) u1 x1_4 (⟨(wrap64 ((wrap64 (16 * x7_4)) + 5)) % 256, (⟨6, x7_4, 0, true, false⟩ : S59), 1, 0, 3, 3, 0⟩ : S68) [.int .u8 ((wrap64 ((wrap64 (16 * x7_4)) + 5)) % 256), .int .i64 6, .int .i64 x7_4, .int .i64 0, .bool true, .bool false, .int .i64 1, .int .i64 0, .int .i64 3, .int .i64 3, .int .i64 0] (fun _ => True) (fun _ => False) rfl rfl ?aP (fun _ hk => hk.elim) ?aF ?aO ?aB ?aS ?aL ?_; (case aP => exact k68_mkM _ _ _ (⟨(wrap64 ((wrap64 (16 * x7_4)) + 5)) % 256, (⟨6, x7_4, 0, true, false⟩ : S59), 1, 0, 3, 3, 0⟩ : S68)); (case aB => exact b_now); (case aF => exact (fun _ _ => trivial)); (case aO => exact (by (with_reducible repeat (first | apply Kd.R_alloc | apply Kd.R_drewN | apply Kd.R_drew)); exact HO_1.out)); (case aS => exact (below_size b_now)); (case aL => have := LMc49.out; omega); intro v239 w53 ho hb hg hat; rw [← Ny238.out] at ho; have n0_ := Aside0.mk (hb); have n1_ := Aside0.mk (ho); clear HB; clear HO_1; have HB := n0_; have HO240 := n1_; clear n0_ n1_; clear ho hb hg hat) | ((with_reducible refine gate_builtin (b := .append) (xs := #[.tmp 131, .tmp 139]) rfl ?_); at_builtin; refine Kd.R_append k68 (w0 := w) w.heap.size rfl (.tmp 131) (.tmp 139) 74 68 (.agg #[(.int .u8 0), (.int .i64 0), (.int .i64 0), (.int .i64 0), (.bool false), (.bool false), (.int .i64 0), (.int .i64 0), (.int .i64 0), (.int .i64 0), (.int .i64 0)]) 80 rfl Tryd.underlying74 info68 rfl (by decide) (by omega) v239 y238 (⟨(wrap64 ((wrap64 (16 * x7_4)) + 6)) % 256, (⟨6, x7_4, 0, false, false⟩ : S59), 1, 0, 3, 3, 0⟩ : S68) [.int .u8 ((wrap64 ((wrap64 (16 * x7_4)) + 6)) % 256), .int .i64 6, .int .i64 x7_4, .int .i64 0, .bool false, .bool false, .int .i64 1, .int .i64 0, .int .i64 3, .int .i64 3, .int .i64 0] (fun _ => True) (fun _ => False) rfl rfl ?aP (fun _ hk => hk.elim) ?aF ?aO ?aB ?aS ?aL ?_; (case aP => exact k68_mkM _ _ _ (⟨(wrap64 ((wrap64 (16 * x7_4)) + 6)) % 256, (⟨6, x7_4, 0, false, false⟩ : S59), 1, 0, 3, 3, 0⟩ : S68)); (case aB => exact b_now); (case aF => exact (fun _ _ => trivial)); (case aO => exact (by (with_reducible repeat (first | apply Kd.R_alloc | apply Kd.R_drewN | apply Kd.R_drew)); exact HO240.out)); (case aS => exact (below_size b_now)); (case aL => have := LMc50.out; omega); intro v242 w54 ho hb hg hat; rw [← Ny241.out] at ho; have n0_ := Aside0.mk (hb); have n1_ := Aside0.mk (ho); clear HB; clear HO240; have HB := n0_; have HO243 := n1_; clear n0_ n1_; clear ho hb hg hat) | ((with_reducible refine gate_builtin (b := .append) (xs := #[.tmp 141, .tmp 149]) rfl ?_); at_builtin; refine Kd.R_append k68 (w0 := w) w.heap.size rfl (.tmp 141) (.tmp 149) 74 68 (.agg #[(.int .u8 0), (.int .i64 0), (.int .i64 0), (.int .i64 0), (.bool false), (.bool false), (.int .i64 0), (.int .i64 0), (.int .i64 0), (.int .i64 0), (.int .i64 0)]) 80 rfl Tryd.underlying74 info68 rfl (by decide) (by omega) v242 y241 (⟨(wrap64 ((wrap64 (16 * x7_4)) + 13)) % 256, (⟨6, x7_4, 0, true, true⟩ : S59), 1, 1, 3, 0, 0⟩ : S68) [.int .u8 ((wrap64 ((wrap64 (16 * x7_4)) + 13)) % 256), .int .i64 6, .int .i64 x7_4, .int .i64 0, .bool true, .bool true, .int .i64 1, .int .i64 1, .int .i64 3, .int .i64 0, .int .i64 0] (fun _ => True) (fun _ => False) rfl rfl ?aP (fun _ hk => hk.elim) ?aF ?aO ?aB ?aS ?aL ?_; (case aP => exact k68_mkM _ _ _ (⟨(wrap64 ((wrap64 (16 * x7_4)) + 13)) % 256, (⟨6, x7_4, 0, true, true⟩ : S59), 1, 1, 3, 0, 0⟩ : S68)); (case aB => exact b_now); (case aF => exact (fun _ _ => trivial)); (case aO => exact (by (with_reducible repeat (first | apply Kd.R_alloc | apply Kd.R_drewN | apply Kd.R_drew)); exact HO243.out)); (case aS => exact (below_size b_now)); (case aL => have := LMc51.out; omega); intro v245 w55 ho hb hg hat; rw [← Ny244.out] at ho; have n0_ := Aside0.mk (hb); have n1_ := Aside0.mk (ho); clear HB; clear HO243; have HB := n0_; have HO246 := n1_; clear n0_ n1_; clear ho hb hg hat) | ((with_reducible refine gate_builtin (b := .append) (xs := #[.tmp 151, .tmp 159]) rfl ?_); at_builtin; refine Kd.R_append k68 (w0 := w) w.heap.size rfl (.tmp 151) (.tmp 159) 74 68 (.agg #[(.int .u8 0), (.int .i64 0), (.int .i64 0), (.int .i64 0), (.bool false), (.bool false), (.int .i64 0), (.int .i64 0), (.int .i64 0), (.int .i64 0), (.int .i64 0)]) 80 rfl Tryd.underlying74 info68 rfl (by decide) (by omega) v245 y244 (⟨(wrap64 ((wrap64 (16 * x7_4)) + 14)) % 256, (⟨6, x7_4, 0, false, true⟩ : S59), 1, 1, 3, 0, 0⟩ : S68) [.int .u8 ((wrap64 ((wrap64 (16 * x7_4)) + 14)) % 256), .int .i64 6, .int .i64 x7_4, .int .i64 0, .bool false, .bool true, .int .i64 1, .int .i64 1, .int .i64 3, .int .i64 0, .int .i64 0] (fun _ => True) (fun _ => False) rfl rfl ?aP (fun _ hk => hk.elim) ?aF ?aO ?aB ?aS ?aL ?_; (case aP => exact k68_mkM _ _ _ (⟨(wrap64 ((wrap64 (16 * x7_4)) + 14)) % 256, (⟨6, x7_4, 0, false, true⟩ : S59), 1, 1, 3, 0, 0⟩ : S68)); (case aB => exact b_now); (case aF => exact (fun _ _ => trivial)); (case aO => exact (by (with_reducible repeat (first | apply Kd.R_alloc | apply Kd.R_drewN | apply Kd.R_drew)); exact HO246.out)); (case aS => exact (below_size b_now)); (case aL => have := LMc52.out; omega); intro v248 w56 ho hb hg hat; rw [← Ny247.out] at ho; have n0_ := Aside0.mk (hb); have n1_ := Aside0.mk (ho); clear HB; clear HO246; have HB := n0_; have HO249 := n1_; clear n0_ n1_; clear ho hb hg hat))
                   go_roundg k4
                   case measure => have := HK1.out; have := HK2.out; have := HK3.out; have := HK4.out; omega
                   case rel => exact ⟨(y247), (wrap64 (x7_4 + 1)), eq_now, H', ⟨by have := HK1.out; have := HK2.out; have := HK3.out; have := HK4.out; omega⟩, ⟨by (with_reducible repeat (first | apply Kd.R_alloc | apply Kd.R_drewN | apply Kd.R_drew)); exact HO249.out⟩, ⟨b_now⟩⟩
                  ·rw [if_neg c52] at H
                   exact absurd H (by simp)
                 ·rw [if_neg c51] at H
                  exact absurd H (by simp)
                ·rw [if_neg c50] at H
                 exact absurd H (by simp)
               ·rw [if_neg c49] at H
                exact absurd H (by simp)
            ·rw [if_neg c46] at H
             have c46b0 : decide (x7_4 ≤ 13) = false := decide_eq_false c46
             clear c46
             by_cases c57 : x1_4.length < 1759218604441
             ·rw [if_pos c57] at H
              have LMc57 := Aside0.mk c57
              clear c57
              obtain ⟨y250, hy250⟩ : ∃ y_ : List (S68), y_ = (x1_4 ++ [(⟨5, (⟨7, 0, 0, false, false⟩ : S59), 0, 0, 3, 0, 0⟩ : S68)]) := ⟨_, rfl⟩
              replace H : (if y250.length < 1759218604441 then ((some (y250 ++ [(⟨133, (⟨8, 0, 0, false, false⟩ : S59), 0, 0, 0, 3, 0⟩ : S68)] : List (S68))).bind fun y253 => (if y253.length < 1759218604441 then ((some (y253 ++ [(⟨149, (⟨9, 0, 0, false, false⟩ : S59), 0, 0, 0, 0, 0⟩ : S68)] : List (S68))).bind fun y256 => (if y256.length < 1759218604441 then ((some (y256 ++ [(⟨24, (⟨10, 0, 0, false, false⟩ : S59), 2, 4, 0, 3, 0⟩ : S68)] : List (S68))).bind fun y259 => (if y259.length < 1759218604441 then (some (y259 ++ [(⟨24, (⟨11, 0, 0, false, false⟩ : S59), 2, 4, 0, 3, 1⟩ : S68)])) else (none))) else (none))) else (none))) else (none)) = some r := by first | (rw [hy250]; with_reducible exact H) | (have H2_ := (Option.bind_some _ _).symm.trans H; rw [hy250]; with_reducible exact H2_) | (have H2_ := (Option.bind_some _ _).symm.trans H; with_reducible exact H2_) | with_reducible exact H | (rw [hy250]; exact H) | exact H
              have Ny250 := Aside0.mk hy250
              clear hy250
              by_cases c58 : y250.length < 1759218604441
              ·rw [if_pos c58] at H
               have LMc58 := Aside0.mk c58
               clear c58
               obtain ⟨y253, hy253⟩ : ∃ y_ : List (S68), y_ = (y250 ++ [(⟨133, (⟨8, 0, 0, false, false⟩ : S59), 0, 0, 0, 3, 0⟩ : S68)]) := ⟨_, rfl⟩
               replace H : (if y253.length < 1759218604441 then ((some (y253 ++ [(⟨149, (⟨9, 0, 0, false, false⟩ : S59), 0, 0, 0, 0, 0⟩ : S68)] : List (S68))).bind fun y256 => (if y256.length < 1759218604441 then ((some (y256 ++ [(⟨24, (⟨10, 0, 0, false, false⟩ : S59), 2, 4, 0, 3, 0⟩ : S68)] : List (S68))).bind fun y259 => (if y259.length < 1759218604441 then (some (y259 ++ [(⟨24, (⟨11, 0, 0, false, false⟩ : S59), 2, 4, 0, 3, 1⟩ : S68)])) else (none))) else (none))) else (none)) = some r := by first | (rw [hy253]; with_reducible exact H) | (have H2_ := (Option.bind_some _ _).symm.trans H; rw [hy253]; with_reducible exact H2_) | (have H2_ := (Option.bind_some _ _).symm.trans H; with_reducible exact H2_) | with_reducible exact H | (rw [hy253]; exact H) | exact H
               have Ny253 := Aside0.mk hy253
               clear hy253
               by_cases c59 : y253.length < 1759218604441
               ·rw [if_pos c59] at H
                have LMc59 := Aside0.mk c59
                clear c59
                obtain ⟨y256, hy256⟩ : ∃ y_ : List (S68), y_ = (y253 ++ [(⟨149, (⟨9, 0, 0, false, false⟩ : S59), 0, 0, 0, 0, 0⟩ : S68)]) := ⟨_, rfl⟩
                replace H : (if y256.length < 1759218604441 then ((some (y256 ++ [(⟨24, (⟨10, 0, 0, false, false⟩ : S59), 2, 4, 0, 3, 0⟩ : S68)] : List (S68))).bind fun y259 => (if y259.length < 1759218604441 then (some (y259 ++ [(⟨24, (⟨11, 0, 0, false, false⟩ : S59), 2, 4, 0, 3, 1⟩ : S68)])) else (none))) else (none)) = some r := by first | (rw [hy256]; with_reducible exact H) | (have H2_ := (Option.bind_some _ _).symm.trans H; rw [hy256]; with_reducible exact H2_) | (have H2_ := (Option.bind_some _ _).symm.trans H; with_reducible exact H2_) | with_reducible exact H | (rw [hy256]; exact H) | exact H
                have Ny256 := Aside0.mk hy256
                clear hy256
                by_cases c60 : y256.length < 1759218604441
                ·rw [if_pos c60] at H
                 have LMc60 := Aside0.mk c60
                 clear c60
                 obtain ⟨y259, hy259⟩ : ∃ y_ : List (S68), y_ = (y256 ++ [(⟨24, (⟨10, 0, 0, false, false⟩ : S59), 2, 4, 0, 3, 0⟩ : S68)]) := ⟨_, rfl⟩
                 replace H : (if y259.length < 1759218604441 then (some (y259 ++ [(⟨24, (⟨11, 0, 0, false, false⟩ : S59), 2, 4, 0, 3, 1⟩ : S68)])) else (none)) = some r := by first | (rw [hy259]; with_reducible exact H) | (have H2_ := (Option.bind_some _ _).symm.trans H; rw [hy259]; with_reducible exact H2_) | (have H2_ := (Option.bind_some _ _).symm.trans H; with_reducible exact H2_) | with_reducible exact H | (rw [hy259]; exact H) | exact H
                 have Ny259 := Aside0.mk hy259
                 clear hy259
                 by_cases c61 : y259.length < 1759218604441
                 ·rw [if_pos c61] at H
                  have LMc61 := Aside0.mk c61
                  clear c61
                  obtain ⟨y262, hy262⟩ : ∃ y_ : List (S68), y_ = (y259 ++ [(⟨24, (⟨11, 0, 0, false, false⟩ : S59), 2, 4, 0, 3, 1⟩ : S68)]) := ⟨_, rfl⟩
                  replace H : (some y262) = some r := by first | (rw [hy262]; with_reducible exact H) | (have H2_ := (Option.bind_some _ _).symm.trans H; rw [hy262]; with_reducible exact H2_) | (have H2_ := (Option.bind_some _ _).symm.trans H; with_reducible exact H2_) | with_reducible exact H | (rw [hy262]; exact H) | exact H
                  have Ny262 := Aside0.mk hy262
                  clear hy262
                  obtain rfl := Option.some.inj H
                  go_wp2_with (first | ((with_reducible refine gate_builtin (b := .append) (xs := #[.tmp 161, .tmp 164]) rfl ?_); at_builtin; refine Kd.R_append k68 (w0 := w) w.heap.size rfl (.tmp 161) (.tmp 164) 74 68 (.agg #[(.int .u8 0), (.int .i64 0), (.int .i64 0), (.int .i64 0), (.bool false), (.bool false), (.int .i64 0), (.int .i64 0), (.int .i64 0), (.int .i64 0), (.int .i64 0)]) 80 rfl Tryd.underlying74 info68 rfl (by decide) (by omega) u1 x1_4 (⟨5, (⟨7, 0, 0, false, false⟩ : S59), 0, 0, 3, 0, 0⟩ : S68) [.int .u8 5, .int .i64 7, .int .i64 0, .int .i64 0, .bool false, .bool false, .int .i64 0, .int .i64 0, .int .i64 3, .int .i64 0, .int .i64 0] (fun _ => True) (fun _ => False) rfl rfl ?aP (fun _ hk => hk.elim) ?aF ?aO ?aB ?aS ?aL ?_; (case aP => exact k68_mkM _ _ _ (⟨5, (⟨7, 0, 0, false, false⟩ : S59), 0, 0, 3, 0, 0⟩ : S68)); (case aB => exact b_now); (case aF => exact (fun _ _ => trivial)); (case aO => exact (by (with_reducible repeat (first | apply Kd.R_alloc | apply Kd.R_drewN | apply Kd.R_drew)); exact HO_1.out)); (case aS => exact (below_size b_now)); (case aL => have := LMc57.out; omega); intro v251 w62 ho hb hg hat; rw [← Ny250.out] at ho; have n0_ := Aside0.mk (hb); have n1_ := Aside0.mk (ho); clear HB; clear HO_1; have HB := n0_; have HO252 := n1_; clear n0_ n1_; clear ho hb hg hat) | ((with_reducible refine gate_builtin (b := .append) (xs := #[.tmp 166, .tmp 169]) rfl ?_); at_builtin; refine Kd.R_append k68 (w0 := w) w.heap.size rfl (.tmp 166) (.tmp 169) 74 68 (.agg #[(.int .u8 0), (.int .i64 0), (.int .i64 0), (.int .i64 0), (.bool false), (.bool false), (.int .i64 0), (.int .i64 0), (.int .i64 0), (.int .i64 0), (.int .i64 0)]) 80 rfl Tryd.underlying74 info68 rfl (by decide) (by omega) v251 y250 (⟨133, (⟨8, 0, 0, false, false⟩ : S59), 0, 0, 0, 3, 0⟩ : S68) [.int .u8 133, .int .i64 8, .int .i64 0, .int .i64 0, .bool false, .bool false, .int .i64 0, .int .i64 0, .int .i64 0, .int .i64 3, .int .i64 0] (fun _ => True) (fun _ => False) rfl rfl ?aP (fun _ hk => hk.elim) ?aF ?aO ?aB ?aS ?aL ?_; (case aP => exact k68_mkM _ _ _ (⟨133, (⟨8, 0, 0, false, false⟩ : S59), 0, 0, 0, 3, 0⟩ : S68)); (case aB => exact b_now); (case aF => exact (fun _ _ => trivial)); (case aO => exact (by (with_reducible repeat (first | apply Kd.R_alloc | apply Kd.R_drewN | apply Kd.R_drew)); exact HO252.out)); (case aS => exact (below_size b_now)); (case aL => have := LMc58.out; omega); intro v254 w63 ho hb hg hat; rw [← Ny253.out] at ho; have n0_ := Aside0.mk (hb); have n1_ := Aside0.mk (ho); clear HB; clear HO252; have HB := n0_; have HO255 := n1_; clear n0_ n1_; clear ho hb hg hat) | ((with_reducible refine gate_builtin (b := .append) (xs := #[.tmp 171, .tmp 174]) rfl ?_); at_builtin; refine Kd.R_append k68 (w0 := w) w.heap.size rfl (.tmp 171) (.tmp 174) 74 68 (.agg #[(.int .u8 0), (.int .i64 0), (.int .i64 0), (.int .i64 0), (.bool false), (.bool false), (.int .i64 0), (.int .i64 0), (.int .i64 0), (.int .i64 0), (.int .i64 0)]) 80 rfl Tryd.underlying74 info68 rfl (by decide) (by omega) v254 y253 (⟨149, (⟨9, 0, 0, false, false⟩ : S59), 0, 0, 0, 0, 0⟩ : S68) [.int .u8 149, .int .i64 9, .int .i64 0, .int .i64 0, .bool false, .bool false, .int .i64 0, .int .i64 0, .int .i64 0, .int .i64 0, .int .i64 0] (fun _ => True) (fun _ => False) rfl rfl ?aP (fun _ hk => hk.elim) ?aF ?aO ?aB ?aS ?aL ?_; (case aP => exact k68_mkM _ _ _ (⟨149, (⟨9, 0, 0, false, false⟩ : S59), 0, 0, 0, 0, 0⟩ : S68)); (case aB => exact b_now); (case aF => exact (fun _ _ => trivial)); (case aO => exact (by (with_reducible repeat (first | apply Kd.R_alloc | apply Kd.R_drewN | apply Kd.R_drew)); exact HO255.out)); (case aS => exact (below_size b_now)); (case aL => have := LMc59.out; omega); intro v257 w64 ho hb hg hat; rw [← Ny256.out] at ho; have n0_ := Aside0.mk (hb); have n1_ := Aside0.mk (ho); clear HB; clear HO255; have HB := n0_; have HO258 := n1_; clear n0_ n1_; clear ho hb hg hat) | ((with_reducible refine gate_builtin (b := .append) (xs := #[.tmp 176, .tmp 179]) rfl ?_); at_builtin; refine Kd.R_append k68 (w0 := w) w.heap.size rfl (.tmp 176) (.tmp 179) 74 68 (.agg #[(.int .u8 0), (.int .i64 0), (.int .i64 0), (.int .i64 0), (.bool false), (.bool false), (.int .i64 0), (.int .i64 0), (.int .i64 0), (.int .i64 0), (.int .i64 0)]) 80 rfl Tryd.underlying74 info68 rfl (by decide) (by omega) v257 y256 (⟨24, (⟨10, 0, 0, false, false⟩ : S59), 2, 4, 0, 3, 0⟩ : S68) [.int .u8 24, .int .i64 10, .int .i64 0, .int .i64 0, .bool false, .bool false, .int .i64 2, .int .i64 4, .int .i64 0, .int .i64 3, .int .i64 0] (fun _ => True) (fun _ => False) rfl rfl ?aP (fun _ hk => hk.elim) ?aF ?aO ?aB ?aS ?aL ?_; (case aP => exact k68_mkM _ _ _ (⟨24, (⟨10, 0, 0, false, false⟩ : S59), 2, 4, 0, 3, 0⟩ : S68)); (case aB => exact b_now); (case aF => exact (fun _ _ => trivial)); (case aO => exact (by (with_reducible repeat (first | apply Kd.R_alloc | apply Kd.R_drewN | apply Kd.R_drew)); exact HO258.out)); (case aS => exact (below_size b_now)); (case aL => have := LMc60.out; omega); intro v260 w65 ho hb hg hat; rw [← Ny259.out] at ho; have n0_ := Aside0.mk (hb); have n1_ := Aside0.mk (ho); clear HB; clear HO258; have HB := n0_; have HO261 := n1_; clear n0_ n1_; clear ho hb hg hat) | ((with_reducible refine gate_builtin (b := .append) (xs := #[.tmp 181, .tmp 184]) rfl ?_); at_builtin; refine Kd.R_append k68 (w0 := w) w.heap.size rfl (.tmp 181) (.tmp 184) 74 68 (.agg #[(.int .u8 0), (.int .i64 0), (.int .i64 0), (.int .i64 0), (.bool false), (.bool false), (.int .i64 0), (.int .i64 0), (.int .i64 0), (.int .i64 0), (.int .i64 0)]) 80 rfl Tryd.underlying74 info68 rfl (by decide) (by omega) v260 y259 (⟨24, (⟨11, 0, 0, false, false⟩ : S59), 2, 4, 0, 3, 1⟩ : S68) [.int .u8 24, .int .i64 11, .int .i64 0, .int .i64 0, .bool false, .bool false, .int .i64 2, .int .i64 4, .int .i64 0, .int .i64 3, .int .i64 1] (fun _ => True) (fun _ => False) rfl rfl ?aP (fun _ hk => hk.elim) ?aF ?aO ?aB ?aS ?aL ?_; (case aP => exact k68_mkM _ _ _ (⟨24, (⟨11, 0, 0, false, false⟩ : S59), 2, 4, 0, 3, 1⟩ : S68)); (case aB => exact b_now); (case aF => exact (fun _ _ => trivial)); (case aO => exact (by (with_reducible repeat (first | apply Kd.R_alloc | apply Kd.R_drewN | apply Kd.R_drew)); exact HO261.out)); (case aS => exact (below_size b_now)); (case aL => have := LMc61.out; omega); intro v263 w66 ho hb hg hat; rw [← Ny262.out] at ho; have n0_ := Aside0.mk (hb); have n1_ := Aside0.mk (ho); clear HB; clear HO261; have HB := n0_; have HO264 := n1_; clear n0_ n1_; clear ho hb hg hat))
                  go_ret
                  exact ⟨_, ret_now, by (with_reducible repeat (first | apply Kd.R_alloc | apply Kd.R_drewN | apply Kd.R_drew)); exact HO264.out, b_now⟩
                 ·rw [if_neg c61] at H
                  exact absurd H (by simp)
                ·rw [if_neg c60] at H
                 exact absurd H (by simp)
               ·rw [if_neg c59] at H
                exact absurd H (by simp)
              ·rw [if_neg c58] at H
               exact absurd H (by simp)
             ·rw [if_neg c57] at H
              exact absurd H (by simp)

end Go.Proofs.YtdhiibkcoolbeaaDoor.P
