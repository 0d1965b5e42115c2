/- Made by this session's driver over the kit's printer: for each Go function a Lean function with the same answers, and a proof that the Go call comes to these answers; no conditions but the ones each theorem names. -/
import Derived.Test.YtdhiibkcoolbeaaDoorPx0
namespace Go.Proofs.YtdhiibkcoolbeaaDoor.P
open Go.RowKit Go.Proofs.YtdhiibkcoolbeaaDoorW.PrintWords Go.Proofs.YtdhiibkcoolbeaaDoorW.PrintLast Go.Proofs.YtdhiibkcoolbeaaDoorW.PrintMore
attribute [local go_sem] max2_int min2_int max_two min_two max_three min_three max_four min_four   -- for this text's walks alone
set_option linter.unusedVariables false
set_option linter.unusedSimpArgs false

/-! ### stockaderef02_Rows: function 38 -/
mutual
def stockaderef02_Rows.l0 : Nat → List (S68) → Int → Option ((List (S68)))
 | 0, _, _ => none
 | k + 1, x1, x2 => if x2 ≤ 12 then (if x2 = 8 then (if x1.length < 1759218604441 then ((some (x1 ++ [(⟨(wrap64 ((wrap64 (16 * x2)) + 4)) % 256, (⟨1, x2, 0, false, false⟩ : S59), 2, 0, 0, 0, 0⟩ : S68)] : List (S68))).bind fun y179 => (if y179.length < 1759218604441 then (stockaderef02_Rows.l0 k (y179 ++ [(⟨(wrap64 ((wrap64 (16 * x2)) + 7)) % 256, (⟨1, x2, 0, true, false⟩ : S59), 2, 0, 0, 0, 0⟩ : S68)]) (wrap64 (x2 + 1))) else (none))) else (none)) else (if x1.length < 1759218604441 then ((some (x1 ++ [(⟨(wrap64 ((wrap64 (16 * x2)) + 4)) % 256, (⟨1, x2, 0, false, false⟩ : S59), 2, 0, 0, 3, 0⟩ : S68)] : List (S68))).bind fun y185 => (if y185.length < 1759218604441 then ((some (y185 ++ [(⟨(wrap64 ((wrap64 (16 * x2)) + 7)) % 256, (⟨1, x2, 0, true, false⟩ : S59), 2, 0, 0, 3, 0⟩ : S68)] : List (S68))).bind fun y188 => (if y188.length < 1759218604441 then ((some (y188 ++ [(⟨(wrap64 ((wrap64 (16 * x2)) + 12)) % 256, (⟨1, x2, 0, false, true⟩ : S59), 2, 1, 0, 0, 0⟩ : S68)] : List (S68))).bind fun y191 => (if y191.length < 1759218604441 then (stockaderef02_Rows.l0 k (y191 ++ [(⟨(wrap64 ((wrap64 (16 * x2)) + 15)) % 256, (⟨1, x2, 0, true, true⟩ : S59), 2, 1, 0, 0, 0⟩ : S68)]) (wrap64 (x2 + 1))) else (none))) else (none))) else (none))) else (none))) else (stockaderef02_Rows.l1 k x1 2)
def stockaderef02_Rows.l1 : Nat → List (S68) → Int → Option ((List (S68)))
 | 0, _, _ => none
 | k + 1, x1, x4 => if x4 ≤ 8 then (if x1.length < 1759218604441 then (stockaderef02_Rows.l1 k (x1 ++ [(⟨215, (⟨2, 0, x4, false, false⟩ : S59), 2, 0, 0, 4, wrap64 (8 * x4)⟩ : S68)]) (wrap64 (2 * x4))) else (none)) else (stockaderef02_Rows.l2 k x1 0)
def stockaderef02_Rows.l2 : Nat → List (S68) → Int → Option ((List (S68)))
 | 0, _, _ => none
 | k + 1, x1, x5 => if x5 < 4 then (if x5 = 0 then (if x1.length < 1759218604441 then ((some (x1 ++ [(⟨(wrap64 (97 + (wrap64 (8 * x5)))) % 256, (⟨3, 0, 4, false, false⟩ : S59), 2, 1, 3, 0, 0⟩ : S68)] : List (S68))).bind fun y200 => (if y200.length < 1759218604441 then ((some (y200 ++ [(⟨(wrap64 (98 + (wrap64 (8 * x5)))) % 256, (⟨5, 0, 4, false, false⟩ : S59), 1, 0, 3, 3, 0⟩ : S68)] : List (S68))).bind fun y203 => (if y203.length < 1759218604441 then (stockaderef02_Rows.l2 k (y203 ++ [(⟨(wrap64 (99 + (wrap64 (8 * x5)))) % 256, (⟨4, 0, 4, false, false⟩ : S59), 1, 1, 3, 0, 0⟩ : S68)]) (wrap64 (x5 + 1))) else (none))) else (none))) else (none)) else (if x5 = 1 then (if x1.length < 1759218604441 then ((some (x1 ++ [(⟨(wrap64 (97 + (wrap64 (8 * x5)))) % 256, (⟨3, 0, 2, false, false⟩ : S59), 2, 1, 3, 0, 0⟩ : S68)] : List (S68))).bind fun y209 => (if y209.length < 1759218604441 then ((some (y209 ++ [(⟨(wrap64 (98 + (wrap64 (8 * x5)))) % 256, (⟨5, 0, 2, false, false⟩ : S59), 1, 0, 3, 3, 0⟩ : S68)] : List (S68))).bind fun y212 => (if y212.length < 1759218604441 then (stockaderef02_Rows.l2 k (y212 ++ [(⟨(wrap64 (99 + (wrap64 (8 * x5)))) % 256, (⟨4, 0, 2, false, false⟩ : S59), 1, 1, 3, 0, 0⟩ : S68)]) (wrap64 (x5 + 1))) else (none))) else (none))) else (none)) else (if x5 = 2 then (if x1.length < 1759218604441 then ((some (x1 ++ [(⟨(wrap64 (97 + (wrap64 (8 * x5)))) % 256, (⟨3, 0, 1, false, false⟩ : S59), 2, 1, 3, 0, 0⟩ : S68)] : List (S68))).bind fun y218 => (if y218.length < 1759218604441 then ((some (y218 ++ [(⟨(wrap64 (98 + (wrap64 (8 * x5)))) % 256, (⟨5, 0, 1, false, false⟩ : S59), 1, 0, 3, 3, 0⟩ : S68)] : List (S68))).bind fun y221 => (if y221.length < 1759218604441 then (stockaderef02_Rows.l2 k (y221 ++ [(⟨(wrap64 (99 + (wrap64 (8 * x5)))) % 256, (⟨4, 0, 1, false, false⟩ : S59), 1, 1, 3, 0, 0⟩ : S68)]) (wrap64 (x5 + 1))) else (none))) else (none))) else (none)) else (if x1.length < 1759218604441 then ((some (x1 ++ [(⟨(wrap64 (97 + (wrap64 (8 * x5)))) % 256, (⟨3, 0, 8, false, false⟩ : S59), 2, 1, 3, 0, 0⟩ : S68)] : List (S68))).bind fun y227 => (if y227.length < 1759218604441 then ((some (y227 ++ [(⟨(wrap64 (98 + (wrap64 (8 * x5)))) % 256, (⟨5, 0, 8, false, false⟩ : S59), 1, 0, 3, 3, 0⟩ : S68)] : List (S68))).bind fun y230 => (if y230.length < 1759218604441 then (stockaderef02_Rows.l2 k (y230 ++ [(⟨(wrap64 (99 + (wrap64 (8 * x5)))) % 256, (⟨4, 0, 8, false, false⟩ : S59), 1, 1, 3, 0, 0⟩ : S68)]) (wrap64 (x5 + 1))) else (none))) else (none))) else (none))))) else (stockaderef02_Rows.l3 k x1 1)
def stockaderef02_Rows.l3 : Nat → List (S68) → Int → Option ((List (S68)))
 | 0, _, _ => none
 | k + 1, x1, x7 => if x7 ≤ 13 then (if x7 = 8 then (stockaderef02_Rows.l3 k x1 (wrap64 (x7 + 1))) else (if x7 = 9 then (stockaderef02_Rows.l3 k x1 (wrap64 (x7 + 1))) else (if x1.length < 1759218604441 then ((some (x1 ++ [(⟨(wrap64 ((wrap64 (16 * x7)) + 5)) % 256, (⟨6, x7, 0, true, false⟩ : S59), 1, 0, 3, 3, 0⟩ : S68)] : List (S68))).bind fun y236 => (if y236.length < 1759218604441 then ((some (y236 ++ [(⟨(wrap64 ((wrap64 (16 * x7)) + 6)) % 256, (⟨6, x7, 0, false, false⟩ : S59), 1, 0, 3, 3, 0⟩ : S68)] : List (S68))).bind fun y239 => (if y239.length < 1759218604441 then ((some (y239 ++ [(⟨(wrap64 ((wrap64 (16 * x7)) + 13)) % 256, (⟨6, x7, 0, true, true⟩ : S59), 1, 1, 3, 0, 0⟩ : S68)] : List (S68))).bind fun y242 => (if y242.length < 1759218604441 then (stockaderef02_Rows.l3 k (y242 ++ [(⟨(wrap64 ((wrap64 (16 * x7)) + 14)) % 256, (⟨6, x7, 0, false, true⟩ : S59), 1, 1, 3, 0, 0⟩ : S68)]) (wrap64 (x7 + 1))) else (none))) else (none))) else (none))) else (none)))) else (if x1.length < 1759218604441 then ((some (x1 ++ [(⟨5, (⟨7, 0, 0, false, false⟩ : S59), 0, 0, 3, 0, 0⟩ : S68)] : List (S68))).bind fun y248 => (if y248.length < 1759218604441 then ((some (y248 ++ [(⟨133, (⟨8, 0, 0, false, false⟩ : S59), 0, 0, 0, 3, 0⟩ : S68)] : List (S68))).bind fun y251 => (if y251.length < 1759218604441 then ((some (y251 ++ [(⟨149, (⟨9, 0, 0, false, false⟩ : S59), 0, 0, 0, 0, 0⟩ : S68)] : List (S68))).bind fun y254 => (if y254.length < 1759218604441 then ((some (y254 ++ [(⟨24, (⟨10, 0, 0, false, false⟩ : S59), 2, 4, 0, 3, 0⟩ : S68)] : List (S68))).bind fun y257 => (if y257.length < 1759218604441 then (some (y257 ++ [(⟨24, (⟨11, 0, 0, false, false⟩ : S59), 2, 4, 0, 3, 1⟩ : S68)])) else (none))) else (none))) else (none))) else (none))) else (none))
end
def stockaderef02_Rows.f (k : Nat)  : Option ((List (S68))) := stockaderef02_Rows.l0 k ([] : List (S68)) 0
theorem stockaderef02_Rows.mono_l : ∀ k, (∀ y0 y1, LeO (stockaderef02_Rows.l0 k y0 y1) (stockaderef02_Rows.l0 (k + 1) y0 y1)) ∧ (∀ y0 y1, LeO (stockaderef02_Rows.l1 k y0 y1) (stockaderef02_Rows.l1 (k + 1) y0 y1)) ∧ (∀ y0 y1, LeO (stockaderef02_Rows.l2 k y0 y1) (stockaderef02_Rows.l2 (k + 1) y0 y1)) ∧ (∀ y0 y1, LeO (stockaderef02_Rows.l3 k y0 y1) (stockaderef02_Rows.l3 (k + 1) y0 y1))
 | 0 => ⟨fun _ _ r h => by simp [stockaderef02_Rows.l0] at h, fun _ _ r h => by simp [stockaderef02_Rows.l1] at h, fun _ _ r h => by simp [stockaderef02_Rows.l2] at h, fun _ _ r h => by simp [stockaderef02_Rows.l3] at h⟩
 | k + 1 => by
  obtain ⟨ih0, ih1, ih2, ih3⟩ := stockaderef02_Rows.mono_l k
  refine ⟨?_, ?_, ?_, ?_⟩
  ·intro y0 y1
   unfold stockaderef02_Rows.l0
   repeat' first
   | (with_reducible exact ih0 _ _)
   | (with_reducible exact ih1 _ _)
   | (with_reducible exact ih2 _ _)
   | (with_reducible exact ih3 _ _)
   | (with_reducible exact LeO.refl _)
   | (with_reducible exact LeO.none _)
   | (with_reducible refine LeO.ite ?_ ?_)
   | (with_reducible refine LeO.bind ?_ (fun _ => ?_))
   | exact ih0 _ _
   | exact ih1 _ _
   | exact ih2 _ _
   | exact ih3 _ _
   | exact LeO.none _
   | refine LeO.ite ?_ ?_
   | refine LeO.bind ?_ (fun _ => ?_)
  ·intro y0 y1
   unfold stockaderef02_Rows.l1
   repeat' first
   | (with_reducible exact ih0 _ _)
   | (with_reducible exact ih1 _ _)
   | (with_reducible exact ih2 _ _)
   | (with_reducible exact ih3 _ _)
   | (with_reducible exact LeO.refl _)
   | (with_reducible exact LeO.none _)
   | (with_reducible refine LeO.ite ?_ ?_)
   | (with_reducible refine LeO.bind ?_ (fun _ => ?_))
   | exact ih0 _ _
   | exact ih1 _ _
   | exact ih2 _ _
   | exact ih3 _ _
   | exact LeO.none _
   | refine LeO.ite ?_ ?_
   | refine LeO.bind ?_ (fun _ => ?_)
  ·intro y0 y1
   unfold stockaderef02_Rows.l2
   repeat' first
   | (with_reducible exact ih0 _ _)
   | (with_reducible exact ih1 _ _)
   | (with_reducible exact ih2 _ _)
   | (with_reducible exact ih3 _ _)
   | (with_reducible exact LeO.refl _)
   | (with_reducible exact LeO.none _)
   | (with_reducible refine LeO.ite ?_ ?_)
   | (with_reducible refine LeO.bind ?_ (fun _ => ?_))
   | exact ih0 _ _
   | exact ih1 _ _
   | exact ih2 _ _
   | exact ih3 _ _
   | exact LeO.none _
   | refine LeO.ite ?_ ?_
   | refine LeO.bind ?_ (fun _ => ?_)
  ·intro y0 y1
   unfold stockaderef02_Rows.l3
   repeat' first
   | (with_reducible exact ih0 _ _)
   | (with_reducible exact ih1 _ _)
   | (with_reducible exact ih2 _ _)
   | (with_reducible exact ih3 _ _)
   | (with_reducible exact LeO.refl _)
   | (with_reducible exact LeO.none _)
   | (with_reducible refine LeO.ite ?_ ?_)
   | (with_reducible refine LeO.bind ?_ (fun _ => ?_))
   | exact ih0 _ _
   | exact ih1 _ _
   | exact ih2 _ _
   | exact ih3 _ _
   | exact LeO.none _
   | refine LeO.ite ?_ ?_
   | refine LeO.bind ?_ (fun _ => ?_)
theorem stockaderef02_Rows.mono : ∀ k, LeO (stockaderef02_Rows.f k ) (stockaderef02_Rows.f (k + 1) ) := by
 intro  k
 obtain ⟨ih0, ih1, ih2, ih3⟩ := stockaderef02_Rows.mono_l k
 unfold stockaderef02_Rows.f
 repeat' first
   | (with_reducible exact ih0 _ _)
   | (with_reducible exact ih1 _ _)
   | (with_reducible exact ih2 _ _)
   | (with_reducible exact ih3 _ _)
   | (with_reducible exact LeO.refl _)
   | (with_reducible exact LeO.none _)
   | (with_reducible refine LeO.ite ?_ ?_)
   | (with_reducible refine LeO.bind ?_ (fun _ => ?_))
   | exact ih0 _ _
   | exact ih1 _ _
   | exact ih2 _ _
   | exact ih3 _ _
   | exact LeO.none _
   | refine LeO.ite ?_ ?_
   | refine LeO.bind ?_ (fun _ => ?_)
set_option maxHeartbeats 8000000 in
set_option maxRecDepth 100000 in
theorem stockaderef02_Rows.calls (k : Nat)  (r : List (S68)) (w : World) (h : stockaderef02_Rows.f k  = some r) :
  Calls Tryd.prog 38 #[] w fun e w' => ∃ v0_ : Value, e = .returned (v0_) ∧ Kd.R k68 68 w' w.heap.size (fun _ => True) v0_ r ∧ Below w.heap.size w w' := by
 have hu59 := Tryd.underlying59
 have hu68 := Tryd.underlying68
 have HB := Aside0.mk (Below.refl w.heap.size w)
 have H : (stockaderef02_Rows.l0 k ([] : List (S68)) 0) = some r := h
 clear h
 have H' := Aside0.mk H
 clear H
 go_enter Tryd.func38, Tryd.ntmps38
 go_wp2
 go_loopg [1, 2] k (fun kq v1 v2 w' => ∃ (x1_1 : List (S68)) (x2_1 : Int), v2 = .int .i64 x2_1 ∧ Aside0 (stockaderef02_Rows.l0 kq x1_1 x2_1 = some r) ∧ Aside0 (kq ≤ k) ∧ Aside0 (Kd.R k68 68 w' w.heap.size (fun _ => True) v1 x1_1) ∧ Aside0 (Below w.heap.size w w'))
 case atStart => exact ⟨(([] : List (S68))), (0), eq_now, H', ⟨Nat.le_refl _⟩, ⟨by first | exact Kd.R_nil _ _ _ _ _ | exact Kd.N_nil _ _ _ _ _ | exact Kd.V_nil _ _ _ _ _ | exact Kd.Q_nil _ _ _ _ _ | exact Kd.S_nil _ _ _ _ _⟩, ⟨b_now⟩⟩
 case round =>
  clear H'
  obtain ⟨x1_1, x2_1, rfl, HA, HK1, HO_1, HB⟩ := hrel
  cases gk with
  | zero => exact absurd HA.out (by simp [stockaderef02_Rows.l0])
  | succ k1 =>
   have H := HA.out
   clear HA
   simp only [stockaderef02_Rows.l0] at H
   by_cases c1 : x2_1 ≤ 12
   ·rw [if_pos c1] at H
    have c1b0 : decide (x2_1 ≤ 12) = true := decide_eq_true c1
    clear c1
    by_cases c2 : x2_1 = 8
    ·rw [if_pos c2] at H
     have c2b0 : (x2_1 == 8) = true := beq_iff_eq.mpr c2
     have c2b1 : (x2_1 != 8) = false := bne_eq_false_iff_eq.mpr c2
     clear c2
     by_cases c3 : x1_1.length < 1759218604441
     ·rw [if_pos c3] at H
      have LMc3 := Aside0.mk c3
      clear c3
      obtain ⟨y179, hy179⟩ : ∃ y_ : List (S68), y_ = (x1_1 ++ [(⟨(wrap64 ((wrap64 (16 * x2_1)) + 4)) % 256, (⟨1, x2_1, 0, false, false⟩ : S59), 2, 0, 0, 0, 0⟩ : S68)]) := ⟨_, rfl⟩
      replace H : (if y179.length < 1759218604441 then (stockaderef02_Rows.l0 k1 (y179 ++ [(⟨(wrap64 ((wrap64 (16 * x2_1)) + 7)) % 256, (⟨1, x2_1, 0, true, false⟩ : S59), 2, 0, 0, 0, 0⟩ : S68)]) (wrap64 (x2_1 + 1))) else (none)) = some r := by first | (rw [hy179]; with_reducible exact H) | (have H2_ := (Option.bind_some _ _).symm.trans H; rw [hy179]; with_reducible exact H2_) | (have H2_ := (Option.bind_some _ _).symm.trans H; with_reducible exact H2_) | with_reducible exact H | (rw [hy179]; exact H) | exact H
      have Ny179 := Aside0.mk hy179
      clear hy179
      by_cases c4 : y179.length < 1759218604441
      ·rw [if_pos c4] at H
       have LMc4 := Aside0.mk c4
       clear c4
       obtain ⟨y182, hy182⟩ : ∃ y_ : List (S68), y_ = (y179 ++ [(⟨(wrap64 ((wrap64 (16 * x2_1)) + 7)) % 256, (⟨1, x2_1, 0, true, false⟩ : S59), 2, 0, 0, 0, 0⟩ : S68)]) := ⟨_, rfl⟩
       replace H : (stockaderef02_Rows.l0 k1 y182 (wrap64 (x2_1 + 1))) = some r := by first | (rw [hy182]; with_reducible exact H) | (have H2_ := (Option.bind_some _ _).symm.trans H; rw [hy182]; with_reducible exact H2_) | (have H2_ := (Option.bind_some _ _).symm.trans H; with_reducible exact H2_) | with_reducible exact H | (rw [hy182]; exact H) | exact H
       have Ny182 := Aside0.mk hy182
       clear hy182
       have H' := Aside0.mk H
       clear H
       go_wp2_with (first | ((with_reducible refine gate_builtin (b := .append) (xs := #[.tmp 14, .tmp 23]) rfl ?_); at_builtin; refine Kd.R_append k68 (w0 := w) w.heap.size rfl (.tmp 14) (.tmp 23) 74 68 (.agg #[(.int .u8 0), (.int .i64 0), (.int .i64 0), (.int .i64 0), (.bool false), (.bool false), (.int .i64 0), (.int .i64 0), (.int .i64 0), (.int .i64 0), (.int .i64 0)]) 80 rfl Tryd.underlying74 info68 rfl (by decide) (by omega) u1 x1_1 (⟨(wrap64 ((wrap64 (16 * x2_1)) + 4)) % 256, (⟨1, x2_1, 0, false, false⟩ : S59), 2, 0, 0, 0, 0⟩ : S68) [.int .u8 ((wrap64 ((wrap64 (16 * x2_1)) + 4)) % 256), .int .i64 1, .int .i64 x2_1, .int .i64 0, .bool false, .bool false, .int .i64 2, .int .i64 0, .int .i64 0, .int .i64 0, .int .i64 0] (fun _ => True) (fun _ => False) rfl rfl ?aP (fun _ hk => hk.elim) ?aF ?aO ?aB ?aS ?aL ?_; (case aP => exact k68_mkM _ _ _ (⟨(wrap64 ((wrap64 (16 * x2_1)) + 4)) % 256, (⟨1, x2_1, 0, false, false⟩ : S59), 2, 0, 0, 0, 0⟩ : S68)); (case aB => exact b_now); (case aF => exact (fun _ _ => trivial)); (case aO => exact (by (with_reducible repeat (first | apply Kd.R_alloc | apply Kd.R_drewN | apply Kd.R_drew)); exact HO_1.out)); (case aS => exact (below_size b_now)); (case aL => have := LMc3.out; omega); intro v180 w5 ho hb hg hat; rw [← Ny179.out] at ho; have n0_ := Aside0.mk (hb); have n1_ := Aside0.mk (ho); clear HB; clear HO_1; have HB := n0_; have HO181 := n1_; clear n0_ n1_; clear ho hb hg hat) | ((with_reducible refine gate_builtin (b := .append) (xs := #[.tmp 25, .tmp 34]) rfl ?_); at_builtin; refine Kd.R_append k68 (w0 := w) w.heap.size rfl (.tmp 25) (.tmp 34) 74 68 (.agg #[(.int .u8 0), (.int .i64 0), (.int .i64 0), (.int .i64 0), (.bool false), (.bool false), (.int .i64 0), (.int .i64 0), (.int .i64 0), (.int .i64 0), (.int .i64 0)]) 80 rfl Tryd.underlying74 info68 rfl (by decide) (by omega) v180 y179 (⟨(wrap64 ((wrap64 (16 * x2_1)) + 7)) % 256, (⟨1, x2_1, 0, true, false⟩ : S59), 2, 0, 0, 0, 0⟩ : S68) [.int .u8 ((wrap64 ((wrap64 (16 * x2_1)) + 7)) % 256), .int .i64 1, .int .i64 x2_1, .int .i64 0, .bool true, .bool false, .int .i64 2, .int .i64 0, .int .i64 0, .int .i64 0, .int .i64 0] (fun _ => True) (fun _ => False) rfl rfl ?aP (fun _ hk => hk.elim) ?aF ?aO ?aB ?aS ?aL ?_; (case aP => exact k68_mkM _ _ _ (⟨(wrap64 ((wrap64 (16 * x2_1)) + 7)) % 256, (⟨1, x2_1, 0, true, false⟩ : S59), 2, 0, 0, 0, 0⟩ : S68)); (case aB => exact b_now); (case aF => exact (fun _ _ => trivial)); (case aO => exact (by (with_reducible repeat (first | apply Kd.R_alloc | apply Kd.R_drewN | apply Kd.R_drew)); exact HO181.out)); (case aS => exact (below_size b_now)); (case aL => have := LMc4.out; omega); intro v183 w6 ho hb hg hat; rw [← Ny182.out] at ho; have n0_ := Aside0.mk (hb); have n1_ := Aside0.mk (ho); clear HB; clear HO181; have HB := n0_; have HO184 := n1_; clear n0_ n1_; clear ho hb hg hat))
       go_roundg k1
       case measure => have := HK1.out; omega
       case rel => exact ⟨(y182), (wrap64 (x2_1 + 1)), eq_now, H', ⟨by have := HK1.out; omega⟩, ⟨by (with_reducible repeat (first | apply Kd.R_alloc | apply Kd.R_drewN | apply Kd.R_drew)); exact HO184.out⟩, ⟨b_now⟩⟩
      ·rw [if_neg c4] at H
       exact absurd H (by simp)
     ·rw [if_neg c3] at H
      exact absurd H (by simp)
    ·rw [if_neg c2] at H
     have c2b0 : (x2_1 == 8) = false := beq_eq_false_iff_ne.mpr c2
     have c2b1 : (x2_1 != 8) = true := bne_iff_ne.mpr c2
     by_cases c7 : x1_1.length < 1759218604441
     ·rw [if_pos c7] at H
      have LMc7 := Aside0.mk c7
      clear c7
      obtain ⟨y185, hy185⟩ : ∃ y_ : List (S68), y_ = (x1_1 ++ [(⟨(wrap64 ((wrap64 (16 * x2_1)) + 4)) % 256, (⟨1, x2_1, 0, false, false⟩ : S59), 2, 0, 0, 3, 0⟩ : S68)]) := ⟨_, rfl⟩
      replace H : (if y185.length < 1759218604441 then ((some (y185 ++ [(⟨(wrap64 ((wrap64 (16 * x2_1)) + 7)) % 256, (⟨1, x2_1, 0, true, false⟩ : S59), 2, 0, 0, 3, 0⟩ : S68)] : List (S68))).bind fun y188 => (if y188.length < 1759218604441 then ((some (y188 ++ [(⟨(wrap64 ((wrap64 (16 * x2_1)) + 12)) % 256, (⟨1, x2_1, 0, false, true⟩ : S59), 2, 1, 0, 0, 0⟩ : S68)] : List (S68))).bind fun y191 => (if y191.length < 1759218604441 then (stockaderef02_Rows.l0 k1 (y191 ++ [(⟨(wrap64 ((wrap64 (16 * x2_1)) + 15)) % 256, (⟨1, x2_1, 0, true, true⟩ : S59), 2, 1, 0, 0, 0⟩ : S68)]) (wrap64 (x2_1 + 1))) else (none))) else (none))) else (none)) = some r := by first | (rw [hy185]; with_reducible exact H) | (have H2_ := (Option.bind_some _ _).symm.trans H; rw [hy185]; with_reducible exact H2_) | (have H2_ := (Option.bind_some _ _).symm.trans H; with_reducible exact H2_) | with_reducible exact H | (rw [hy185]; exact H) | exact H
      have Ny185 := Aside0.mk hy185
      clear hy185
      by_cases c8 : y185.length < 1759218604441
      ·rw [if_pos c8] at H
       have LMc8 := Aside0.mk c8
       clear c8
       obtain ⟨y188, hy188⟩ : ∃ y_ : List (S68), y_ = (y185 ++ [(⟨(wrap64 ((wrap64 (16 * x2_1)) + 7)) % 256, (⟨1, x2_1, 0, true, false⟩ : S59), 2, 0, 0, 3, 0⟩ : S68)]) := ⟨_, rfl⟩
       replace H : (if y188.length < 1759218604441 then ((some (y188 ++ [(⟨(wrap64 ((wrap64 (16 * x2_1)) + 12)) % 256, (⟨1, x2_1, 0, false, true⟩ : S59), 2, 1, 0, 0, 0⟩ : S68)] : List (S68))).bind fun y191 => (if y191.length < 1759218604441 then (stockaderef02_Rows.l0 k1 (y191 ++ [(⟨(wrap64 ((wrap64 (16 * x2_1)) + 15)) % 256, (⟨1, x2_1, 0, true, true⟩ : S59), 2, 1, 0, 0, 0⟩ : S68)]) (wrap64 (x2_1 + 1))) else (none))) else (none)) = some r := by first | (rw [hy188]; with_reducible exact H) | (have H2_ := (Option.bind_some _ _).symm.trans H; rw [hy188]; with_reducible exact H2_) | (have H2_ := (Option.bind_some _ _).symm.trans H; with_reducible exact H2_) | with_reducible exact H | (rw [hy188]; exact H) | exact H
       have Ny188 := Aside0.mk hy188
       clear hy188
       by_cases c9 : y188.length < 1759218604441
       ·rw [if_pos c9] at H
        have LMc9 := Aside0.mk c9
        clear c9
        obtain ⟨y191, hy191⟩ : ∃ y_ : List (S68), y_ = (y188 ++ [(⟨(wrap64 ((wrap64 (16 * x2_1)) + 12)) % 256, (⟨1, x2_1, 0, false, true⟩ : S59), 2, 1, 0, 0, 0⟩ : S68)]) := ⟨_, rfl⟩
        replace H : (if y191.length < 1759218604441 then (stockaderef02_Rows.l0 k1 (y191 ++ [(⟨(wrap64 ((wrap64 (16 * x2_1)) + 15)) % 256, (⟨1, x2_1, 0, true, true⟩ : S59), 2, 1, 0, 0, 0⟩ : S68)]) (wrap64 (x2_1 + 1))) else (none)) = some r := by first | (rw [hy191]; with_reducible exact H) | (have H2_ := (Option.bind_some _ _).symm.trans H; rw [hy191]; with_reducible exact H2_) | (have H2_ := (Option.bind_some _ _).symm.trans H; with_reducible exact H2_) | with_reducible exact H | (rw [hy191]; exact H) | exact H
        have Ny191 := Aside0.mk hy191
        clear hy191
        by_cases c10 : y191.length < 1759218604441
        ·rw [if_pos c10] at H
         have LMc10 := Aside0.mk c10
         clear c10
         obtain ⟨y194, hy194⟩ : ∃ y_ : List (S68), y_ = (y191 ++ [(⟨(wrap64 ((wrap64 (16 * x2_1)) + 15)) % 256, (⟨1, x2_1, 0, true, true⟩ : S59), 2, 1, 0, 0, 0⟩ : S68)]) := ⟨_, rfl⟩
         replace H : (stockaderef02_Rows.l0 k1 y194 (wrap64 (x2_1 + 1))) = some r := by first | (rw [hy194]; with_reducible exact H) | (have H2_ := (Option.bind_some _ _).symm.trans H; rw [hy194]; with_reducible exact H2_) | (have H2_ := (Option.bind_some _ _).symm.trans H; with_reducible exact H2_) | with_reducible exact H | (rw [hy194]; exact H) | exact H
         have Ny194 := Aside0.mk hy194
         clear hy194
         have H' := Aside0.mk H
         clear H
         go_wp2_with (first | ((with_reducible refine gate_builtin (b := .append) (xs := #[.tmp 14, .tmp 23]) rfl ?_); at_builtin; refine Kd.R_append k68 (w0 := w) w.heap.size rfl (.tmp 14) (.tmp 23) 74 68 (.agg #[(.int .u8 0), (.int .i64 0), (.int .i64 0), (.int .i64 0), (.bool false), (.bool false), (.int .i64 0), (.int .i64 0), (.int .i64 0), (.int .i64 0), (.int .i64 0)]) 80 rfl Tryd.underlying74 info68 rfl (by decide) (by omega) u1 x1_1 (⟨(wrap64 ((wrap64 (16 * x2_1)) + 4)) % 256, (⟨1, x2_1, 0, false, false⟩ : S59), 2, 0, 0, 3, 0⟩ : S68) [.int .u8 ((wrap64 ((wrap64 (16 * x2_1)) + 4)) % 256), .int .i64 1, .int .i64 x2_1, .int .i64 0, .bool false, .bool false, .int .i64 2, .int .i64 0, .int .i64 0, .int .i64 3, .int .i64 0] (fun _ => True) (fun _ => False) rfl rfl ?aP (fun _ hk => hk.elim) ?aF ?aO ?aB ?aS ?aL ?_; (case aP => exact k68_mkM _ _ _ (⟨(wrap64 ((wrap64 (16 * x2_1)) + 4)) % 256, (⟨1, x2_1, 0, false, false⟩ : S59), 2, 0, 0, 3, 0⟩ : S68)); (case aB => exact b_now); (case aF => exact (fun _ _ => trivial)); (case aO => exact (by (with_reducible repeat (first | apply Kd.R_alloc | apply Kd.R_drewN | apply Kd.R_drew)); exact HO_1.out)); (case aS => exact (below_size b_now)); (case aL => have := LMc7.out; omega); intro v186 w11 ho hb hg hat; rw [← Ny185.out] at ho; have n0_ := Aside0.mk (hb); have n1_ := Aside0.mk (ho); clear HB; clear HO_1; have HB := n0_; have HO187 := n1_; clear n0_ n1_; clear ho hb hg hat) | ((with_reducible refine gate_builtin (b := .append) (xs := #[.tmp 25, .tmp 34]) rfl ?_); at_builtin; refine Kd.R_append k68 (w0 := w) w.heap.size rfl (.tmp 25) (.tmp 34) 74 68 (.agg #[(.int .u8 0), (.int .i64 0), (.int .i64 0), (.int .i64 0), (.bool false), (.bool false), (.int .i64 0), (.int .i64 0), (.int .i64 0), (.int .i64 0), (.int .i64 0)]) 80 rfl Tryd.underlying74 info68 rfl (by decide) (by omega) v186 y185 (⟨(wrap64 ((wrap64 (16 * x2_1)) + 7)) % 256, (⟨1, x2_1, 0, true, false⟩ : S59), 2, 0, 0, 3, 0⟩ : S68) [.int .u8 ((wrap64 ((wrap64 (16 * x2_1)) + 7)) % 256), .int .i64 1, .int .i64 x2_1, .int .i64 0, .bool true, .bool false, .int .i64 2, .int .i64 0, .int .i64 0, .int .i64 3, .int .i64 0] (fun _ => True) (fun _ => False) rfl rfl ?aP (fun _ hk => hk.elim) ?aF ?aO ?aB ?aS ?aL ?_; (case aP => exact k68_mkM _ _ _ (⟨(wrap64 ((wrap64 (16 * x2_1)) + 7)) % 256, (⟨1, x2_1, 0, true, false⟩ : S59), 2, 0, 0, 3, 0⟩ : S68)); (case aB => exact b_now); (case aF => exact (fun _ _ => trivial)); (case aO => exact (by (with_reducible repeat (first | apply Kd.R_alloc | apply Kd.R_drewN | apply Kd.R_drew)); exact HO187.out)); (case aS => exact (below_size b_now)); (case aL => have := LMc8.out; omega); intro v189 w12 ho hb hg hat; rw [← Ny188.out] at ho; have n0_ := Aside0.mk (hb); have n1_ := Aside0.mk (ho); clear HB; clear HO187; have HB := n0_; have HO190 := n1_; clear n0_ n1_; clear ho hb hg hat) | ((with_reducible refine gate_builtin (b := .append) (xs := #[.tmp 38, .tmp 46]) rfl ?_); at_builtin; refine Kd.R_append k68 (w0 := w) w.heap.size rfl (.tmp 38) (.tmp 46) 74 68 (.agg #[(.int .u8 0), (.int .i64 0), (.int .i64 0), (.int .i64 0), (.bool false), (.bool false), (.int .i64 0), (.int .i64 0), (.int .i64 0), (.int .i64 0), (.int .i64 0)]) 80 rfl Tryd.underlying74 info68 rfl (by decide) (by omega) v189 y188 (⟨(wrap64 ((wrap64 (16 * x2_1)) + 12)) % 256, (⟨1, x2_1, 0, false, true⟩ : S59), 2, 1, 0, 0, 0⟩ : S68) [.int .u8 ((wrap64 ((wrap64 (16 * x2_1)) + 12)) % 256), .int .i64 1, .int .i64 x2_1, .int .i64 0, .bool false, .bool true, .int .i64 2, .int .i64 1, .int .i64 0, .int .i64 0, .int .i64 0] (fun _ => True) (fun _ => False) rfl rfl ?aP (fun _ hk => hk.elim) ?aF ?aO ?aB ?aS ?aL ?_; (case aP => exact k68_mkM _ _ _ (⟨(wrap64 ((wrap64 (16 * x2_1)) + 12)) % 256, (⟨1, x2_1, 0, false, true⟩ : S59), 2, 1, 0, 0, 0⟩ : S68)); (case aB => exact b_now); (case aF => exact (fun _ _ => trivial)); (case aO => exact (by (with_reducible repeat (first | apply Kd.R_alloc | apply Kd.R_drewN | apply Kd.R_drew)); exact HO190.out)); (case aS => exact (below_size b_now)); (case aL => have := LMc9.out; omega); intro v192 w13 ho hb hg hat; rw [← Ny191.out] at ho; have n0_ := Aside0.mk (hb); have n1_ := Aside0.mk (ho); clear HB; clear HO190; have HB := n0_; have HO193 := n1_; clear n0_ n1_; clear ho hb hg hat) | ((with_reducible refine gate_builtin (b := .append) (xs := #[.tmp 48, .tmp 56]) rfl ?_); at_builtin; refine Kd.R_append k68 (w0 := w) w.heap.size rfl (.tmp 48) (.tmp 56) 74 68 (.agg #[(.int .u8 0), (.int .i64 0), (.int .i64 0), (.int .i64 0), (.bool false), (.bool false), (.int .i64 0), (.int .i64 0), (.int .i64 0), (.int .i64 0), (.int .i64 0)]) 80 rfl Tryd.underlying74 info68 rfl (by decide) (by omega) v192 y191 (⟨(wrap64 ((wrap64 (16 * x2_1)) + 15)) % 256, (⟨1, x2_1, 0, true, true⟩ : S59), 2, 1, 0, 0, 0⟩ : S68) [.int .u8 ((wrap64 ((wrap64 (16 * x2_1)) + 15)) % 256), .int .i64 1, .int .i64 x2_1, .int .i64 0, .bool true, .bool true, .int .i64 2, .int .i64 1, .int .i64 0, .int .i64 0, .int .i64 0] (fun _ => True) (fun _ => False) rfl rfl ?aP (fun _ hk => hk.elim) ?aF ?aO ?aB ?aS ?aL ?_; (case aP => exact k68_mkM _ _ _ (⟨(wrap64 ((wrap64 (16 * x2_1)) + 15)) % 256, (⟨1, x2_1, 0, true, true⟩ : S59), 2, 1, 0, 0, 0⟩ : S68)); (case aB => exact b_now); (case aF => exact (fun _ _ => trivial)); (case aO => exact (by (with_reducible repeat (first | apply Kd.R_alloc | apply Kd.R_drewN | apply Kd.R_drew)); exact HO193.out)); (case aS => exact (below_size b_now)); (case aL => have := LMc10.out; omega); intro v195 w14 ho hb hg hat; rw [← Ny194.out] at ho; have n0_ := Aside0.mk (hb); have n1_ := Aside0.mk (ho); clear HB; clear HO193; have HB := n0_; have HO196 := n1_; clear n0_ n1_; clear ho hb hg hat))
         go_roundg k1
         case measure => have := HK1.out; omega
         case rel => exact ⟨(y194), (wrap64 (x2_1 + 1)), eq_now, H', ⟨by have := HK1.out; omega⟩, ⟨by (with_reducible repeat (first | apply Kd.R_alloc | apply Kd.R_drewN | apply Kd.R_drew)); exact HO196.out⟩, ⟨b_now⟩⟩
        ·rw [if_neg c10] at H
         exact absurd H (by simp)
       ·rw [if_neg c9] at H
        exact absurd H (by simp)
      ·rw [if_neg c8] at H
       exact absurd H (by simp)
     ·rw [if_neg c7] at H
      exact absurd H (by simp)
   ·rw [if_neg c1] at H
    have c1b0 : decide (x2_1 ≤ 12) = false := decide_eq_false c1
    clear c1
    have H' := Aside0.mk H
    clear H
    go_wp2
    go_loopg [1, 4] k1 (fun kq v1 v4 w' => ∃ (x1_2 : List (S68)) (x4_2 : Int), v4 = .int .i64 x4_2 ∧ Aside0 (stockaderef02_Rows.l1 kq x1_2 x4_2 = some r) ∧ Aside0 (kq ≤ k1) ∧ Aside0 (Kd.R k68 68 w' w.heap.size (fun _ => True) v1 x1_2) ∧ Aside0 (Below w.heap.size w w'))
    case atStart => exact ⟨(x1_1), (2), eq_now, H', ⟨Nat.le_refl _⟩, ⟨by (with_reducible repeat (first | apply Kd.R_alloc | apply Kd.R_drewN | apply Kd.R_drew)); exact HO_1.out⟩, ⟨b_now⟩⟩
    case round =>
     clear H'
     try clear c1
     try clear c1b0
     try clear c2
     try clear c2b0
     try clear c2b1
     try clear p2
     try clear c3
     try clear c4
     try clear p6
     try clear c7
     try clear c8
     try clear c9
     try clear c10
     obtain ⟨x1_2, x4_2, rfl, HA, HK2, HO_1, HB⟩ := hrel
     cases gk with
     | zero => exact absurd HA.out (by simp [stockaderef02_Rows.l1])
     | succ k2 =>
      have H := HA.out
      clear HA
      simp only [stockaderef02_Rows.l1] at H
      by_cases c15 : x4_2 ≤ 8
      ·rw [if_pos c15] at H
       have c15b0 : decide (x4_2 ≤ 8) = true := decide_eq_true c15
       clear c15
       by_cases c16 : x1_2.length < 1759218604441
       ·rw [if_pos c16] at H
        have LMc16 := Aside0.mk c16
        clear c16
        obtain ⟨y197, hy197⟩ : ∃ y_ : List (S68), y_ = (x1_2 ++ [(⟨215, (⟨2, 0, x4_2, false, false⟩ : S59), 2, 0, 0, 4, wrap64 (8 * x4_2)⟩ : S68)]) := ⟨_, rfl⟩
        replace H : (stockaderef02_Rows.l1 k2 y197 (wrap64 (2 * x4_2))) = some r := by first | (rw [hy197]; with_reducible exact H) | (have H2_ := (Option.bind_some _ _).symm.trans H; rw [hy197]; with_reducible exact H2_) | (have H2_ := (Option.bind_some _ _).symm.trans H; with_reducible exact H2_) | with_reducible exact H | (rw [hy197]; exact H) | exact H
        have Ny197 := Aside0.mk hy197
        clear hy197
        have H' := Aside0.mk H
        clear H
        go_wp2_with (first | ((with_reducible refine gate_builtin (b := .append) (xs := #[.tmp 62, .tmp 68]) rfl ?_); at_builtin; refine Kd.R_append k68 (w0 := w) w.heap.size rfl (.tmp 62) (.tmp 68) 74 68 (.agg #[(.int .u8 0), (.int .i64 0), (.int .i64 0), (.int .i64 0), (.bool false), (.bool false), (.int .i64 0), (.int .i64 0), (.int .i64 0), (.int .i64 0), (.int .i64 0)]) 80 rfl Tryd.underlying74 info68 rfl (by decide) (by omega) u1 x1_2 (⟨215, (⟨2, 0, x4_2, false, false⟩ : S59), 2, 0, 0, 4, wrap64 (8 * x4_2)⟩ : S68) [.int .u8 215, .int .i64 2, .int .i64 0, .int .i64 x4_2, .bool false, .bool false, .int .i64 2, .int .i64 0, .int .i64 0, .int .i64 4, .int .i64 (wrap64 (8 * x4_2))] (fun _ => True) (fun _ => False) rfl rfl ?aP (fun _ hk => hk.elim) ?aF ?aO ?aB ?aS ?aL ?_; (case aP => exact k68_mkM _ _ _ (⟨215, (⟨2, 0, x4_2, false, false⟩ : S59), 2, 0, 0, 4, wrap64 (8 * x4_2)⟩ : S68)); (case aB => exact b_now); (case aF => exact (fun _ _ => trivial)); (case aO => exact (by (with_reducible repeat (first | apply Kd.R_alloc | apply Kd.R_drewN | apply Kd.R_drew)); exact HO_1.out)); (case aS => exact (below_size b_now)); (case aL => have := LMc16.out; omega); intro v198 w17 ho hb hg hat; rw [← Ny197.out] at ho; have n0_ := Aside0.mk (hb); have n1_ := Aside0.mk (ho); clear HB; clear HO_1; have HB := n0_; have HO199 := n1_; clear n0_ n1_; clear ho hb hg hat))
        go_roundg k2
        case measure => have := HK1.out; have := HK2.out; omega
        case rel => exact ⟨(y197), (wrap64 (2 * x4_2)), eq_now, H', ⟨by have := HK1.out; have := HK2.out; omega⟩, ⟨by (with_reducible repeat (first | apply Kd.R_alloc | apply Kd.R_drewN | apply Kd.R_drew)); exact HO199.out⟩, ⟨b_now⟩⟩
       ·rw [if_neg c16] at H
        exact absurd H (by simp)
      ·rw [if_neg c15] at H
       have c15b0 : decide (x4_2 ≤ 8) = false := decide_eq_false c15
       clear c15
       have H' := Aside0.mk H
       clear H
       go_wp2
       go_loopg [1, 5] k2 (fun kq v1 v5 w' => ∃ (x1_3 : List (S68)) (x5_3 : Int), v5 = .int .i64 x5_3 ∧ Aside0 (stockaderef02_Rows.l2 kq x1_3 x5_3 = some r) ∧ Aside0 (kq ≤ k2) ∧ Aside0 (Kd.R k68 68 w' w.heap.size (fun _ => True) v1 x1_3) ∧ Aside0 (Below w.heap.size w w'))
       case atStart => exact ⟨(x1_2), (0), eq_now, H', ⟨Nat.le_refl _⟩, ⟨by (with_reducible repeat (first | apply Kd.R_alloc | apply Kd.R_drewN | apply Kd.R_drew)); exact HO_1.out⟩, ⟨b_now⟩⟩
       case round =>
        clear H'
        try clear c1
        try clear c1b0
        try clear c2
        try clear c2b0
        try clear c2b1
        try clear p2
        try clear c3
        try clear c4
        try clear p6
        try clear c7
        try clear c8
        try clear c9
        try clear c10
        try clear c15
        try clear c15b0
        try clear c16
        try clear p2
        try clear p6
        obtain ⟨x1_3, x5_3, rfl, HA, HK3, HO_1, HB⟩ := hrel
        cases gk with
        | zero => exact absurd HA.out (by simp [stockaderef02_Rows.l2])
        | succ k3 =>
         have H := HA.out
         clear HA
         simp only [stockaderef02_Rows.l2] at H
         by_cases c18 : x5_3 < 4
         ·rw [if_pos c18] at H
          have c18b0 : decide (x5_3 < 4) = true := decide_eq_true c18
          clear c18
          by_cases c19 : x5_3 = 0
          ·rw [if_pos c19] at H
           have c19b0 : (x5_3 == 0) = true := beq_iff_eq.mpr c19
           have c19b1 : (x5_3 != 0) = false := bne_eq_false_iff_eq.mpr c19
           clear c19
           by_cases c20 : x1_3.length < 1759218604441
           ·rw [if_pos c20] at H
            have LMc20 := Aside0.mk c20
            clear c20
            obtain ⟨y200, hy200⟩ : ∃ y_ : List (S68), y_ = (x1_3 ++ [(⟨(wrap64 (97 + (wrap64 (8 * x5_3)))) % 256, (⟨3, 0, 4, false, false⟩ : S59), 2, 1, 3, 0, 0⟩ : S68)]) := ⟨_, rfl⟩
            replace H : (if y200.length < 1759218604441 then ((some (y200 ++ [(⟨(wrap64 (98 + (wrap64 (8 * x5_3)))) % 256, (⟨5, 0, 4, false, false⟩ : S59), 1, 0, 3, 3, 0⟩ : S68)] : List (S68))).bind fun y203 => (if y203.length < 1759218604441 then (stockaderef02_Rows.l2 k3 (y203 ++ [(⟨(wrap64 (99 + (wrap64 (8 * x5_3)))) % 256, (⟨4, 0, 4, false, false⟩ : S59), 1, 1, 3, 0, 0⟩ : S68)]) (wrap64 (x5_3 + 1))) else (none))) else (none)) = some r := by first | (rw [hy200]; with_reducible exact H) | (have H2_ := (Option.bind_some _ _).symm.trans H; rw [hy200]; with_reducible exact H2_) | (have H2_ := (Option.bind_some _ _).symm.trans H; with_reducible exact H2_) | with_reducible exact H | (rw [hy200]; exact H) | exact H
            have Ny200 := Aside0.mk hy200
            clear hy200
            by_cases c21 : y200.length < 1759218604441
            ·rw [if_pos c21] at H
             have LMc21 := Aside0.mk c21
             clear c21
             obtain ⟨y203, hy203⟩ : ∃ y_ : List (S68), y_ = (y200 ++ [(⟨(wrap64 (98 + (wrap64 (8 * x5_3)))) % 256, (⟨5, 0, 4, false, false⟩ : S59), 1, 0, 3, 3, 0⟩ : S68)]) := ⟨_, rfl⟩
             replace H : (if y203.length < 1759218604441 then (stockaderef02_Rows.l2 k3 (y203 ++ [(⟨(wrap64 (99 + (wrap64 (8 * x5_3)))) % 256, (⟨4, 0, 4, false, false⟩ : S59), 1, 1, 3, 0, 0⟩ : S68)]) (wrap64 (x5_3 + 1))) else (none)) = some r := by first | (rw [hy203]; with_reducible exact H) | (have H2_ := (Option.bind_some _ _).symm.trans H; rw [hy203]; with_reducible exact H2_) | (have H2_ := (Option.bind_some _ _).symm.trans H; with_reducible exact H2_) | with_reducible exact H | (rw [hy203]; exact H) | exact H
             have Ny203 := Aside0.mk hy203
             clear hy203
             by_cases c22 : y203.length < 1759218604441
             ·rw [if_pos c22] at H
              have LMc22 := Aside0.mk c22
              clear c22
              obtain ⟨y206, hy206⟩ : ∃ y_ : List (S68), y_ = (y203 ++ [(⟨(wrap64 (99 + (wrap64 (8 * x5_3)))) % 256, (⟨4, 0, 4, false, false⟩ : S59), 1, 1, 3, 0, 0⟩ : S68)]) := ⟨_, rfl⟩
              replace H : (stockaderef02_Rows.l2 k3 y206 (wrap64 (x5_3 + 1))) = some r := by first | (rw [hy206]; with_reducible exact H) | (have H2_ := (Option.bind_some _ _).symm.trans H; rw [hy206]; with_reducible exact H2_) | (have H2_ := (Option.bind_some _ _).symm.trans H; with_reducible exact H2_) | with_reducible exact H | (rw [hy206]; exact H) | exact H
              have Ny206 := Aside0.mk hy206
              clear hy206
              have H' := Aside0.mk H
              clear H
              go_wp2_with (first | ((with_reducible refine gate_builtin (b := .append) (xs := #[.tmp 81, .tmp 89]) rfl ?_); at_builtin; refine Kd.R_append k68 (w0 := w) w.heap.size rfl (.tmp 81) (.tmp 89) 74 68 (.agg #[(.int .u8 0), (.int .i64 0), (.int .i64 0), (.int .i64 0), (.bool false), (.bool false), (.int .i64 0), (.int .i64 0), (.int .i64 0), (.int .i64 0), (.int .i64 0)]) 80 rfl Tryd.underlying74 info68 rfl (by decide) (by omega) u1 x1_3 (⟨(wrap64 (97 + (wrap64 (8 * x5_3)))) % 256, (⟨3, 0, 4, false, false⟩ : S59), 2, 1, 3, 0, 0⟩ : S68) [.int .u8 ((wrap64 (97 + (wrap64 (8 * x5_3)))) % 256), .int .i64 3, .int .i64 0, .int .i64 4, .bool false, .bool false, .int .i64 2, .int .i64 1, .int .i64 3, .int .i64 0, .int .i64 0] (fun _ => True) (fun _ => False) rfl rfl ?aP (fun _ hk => hk.elim) ?aF ?aO ?aB ?aS ?aL ?_; (case aP => exact k68_mkM _ _ _ (⟨(wrap64 (97 + (wrap64 (8 * x5_3)))) % 256, (⟨3, 0, 4, false, false⟩ : S59), 2, 1, 3, 0, 0⟩ : S68)); (case aB => exact b_now); (case aF => exact (fun _ _ => trivial)); (case aO => exact (by (with_reducible repeat (first | apply Kd.R_alloc | apply Kd.R_drewN | apply Kd.R_drew)); exact HO_1.out)); (case aS => exact (below_size b_now)); (case aL => have := LMc20.out; omega); intro v201 w23 ho hb hg hat; rw [← Ny200.out] at ho; have n0_ := Aside0.mk (hb); have n1_ := Aside0.mk (ho); clear HB; clear HO_1; have HB := n0_; have HO202 := n1_; clear n0_ n1_; clear ho hb hg hat) | ((with_reducible refine gate_builtin (b := .append) (xs := #[.tmp 91, .tmp 99]) rfl ?_); at_builtin; refine Kd.R_append k68 (w0 := w) w.heap.size rfl (.tmp 91) (.tmp 99) 74 68 (.agg #[(.int .u8 0), (.int .i64 0), (.int .i64 0), (.int .i64 0), (.bool false), (.bool false), (.int .i64 0), (.int .i64 0), (.int .i64 0), (.int .i64 0), (.int .i64 0)]) 80 rfl Tryd.underlying74 info68 rfl (by decide) (by omega) v201 y200 (⟨(wrap64 (98 + (wrap64 (8 * x5_3)))) % 256, (⟨5, 0, 4, false, false⟩ : S59), 1, 0, 3, 3, 0⟩ : S68) [.int .u8 ((wrap64 (98 + (wrap64 (8 * x5_3)))) % 256), .int .i64 5, .int .i64 0, .int .i64 4, .bool false, .bool false, .int .i64 1, .int .i64 0, .int .i64 3, .int .i64 3, .int .i64 0] (fun _ => True) (fun _ => False) rfl rfl ?aP (fun _ hk => hk.elim) ?aF ?aO ?aB ?aS ?aL ?_; (case aP => exact k68_mkM _ _ _ (⟨(wrap64 (98 + (wrap64 (8 * x5_3)))) % 256, (⟨5, 0, 4, false, false⟩ : S59), 1, 0, 3, 3, 0⟩ : S68)); (case aB => exact b_now); (case aF => exact (fun _ _ => trivial)); (case aO => exact (by (with_reducible repeat (first | apply Kd.R_alloc | apply Kd.R_drewN | apply Kd.R_drew)); exact HO202.out)); (case aS => exact (below_size b_now)); (case aL => have := LMc21.out; omega); intro v204 w24 ho hb hg hat; rw [← Ny203.out] at ho; have n0_ := Aside0.mk (hb); have n1_ := Aside0.mk (ho); clear HB; clear HO202; have HB := n0_; have HO205 := n1_; clear n0_ n1_; clear ho hb hg hat) | ((with_reducible refine gate_builtin (b := .append) (xs := #[.tmp 101, .tmp 109]) rfl ?_); at_builtin; refine Kd.R_append k68 (w0 := w) w.heap.size rfl (.tmp 101) (.tmp 109) 74 68 (.agg #[(.int .u8 0), (.int .i64 0), (.int .i64 0), (.int .i64 0), (.bool false), (.bool false), (.int .i64 0), (.int .i64 0), (.int .i64 0), (.int .i64 0), (.int .i64 0)]) 80 rfl Tryd.underlying74 info68 rfl (by decide) (by omega) v204 y203 (⟨(wrap64 (99 + (wrap64 (8 * x5_3)))) % 256, (⟨4, 0, 4, false, false⟩ : S59), 1, 1, 3, 0, 0⟩ : S68) [.int .u8 ((wrap64 (99 + (wrap64 (8 * x5_3)))) % 256), .int .i64 4, .int .i64 0, .int .i64 4, .bool false, .bool false, .int .i64 1, .int .i64 1, .int .i64 3, .int .i64 0, .int .i64 0] (fun _ => True) (fun _ => False) rfl rfl ?aP (fun _ hk => hk.elim) ?aF ?aO ?aB ?aS ?aL ?_; (case aP => exact k68_mkM _ _ _ (⟨(wrap64 (99 + (wrap64 (8 * x5_3)))) % 256, (⟨4, 0, 4, false, false⟩ : S59), 1, 1, 3, 0, 0⟩ : S68)); (case aB => exact b_now); (case aF => exact (fun _ _ => trivial)); (case aO => exact (by (with_reducible repeat (first | apply Kd.R_alloc | apply Kd.R_drewN | apply Kd.R_drew)); exact HO205.out)); (case aS => exact (below_size b_now)); (case aL => have := LMc22.out; omega); intro v207 w25 ho hb hg hat; rw [← Ny206.out] at ho; have n0_ := Aside0.mk (hb); have n1_ := Aside0.mk (ho); clear HB; clear HO205; have HB := n0_; have HO208 := n1_; clear n0_ n1_; clear ho hb hg hat))
              go_roundg k3
              case measure => have := HK1.out; have := HK2.out; have := HK3.out; omega
              case rel => exact ⟨(y206), (wrap64 (x5_3 + 1)), eq_now, H', ⟨by have := HK1.out; have := HK2.out; have := HK3.out; omega⟩, ⟨by (with_reducible repeat (first | apply Kd.R_alloc | apply Kd.R_drewN | apply Kd.R_drew)); exact HO208.out⟩, ⟨b_now⟩⟩
             ·rw [if_neg c22] at H
              exact absurd H (by simp)
            ·rw [if_neg c21] at H
             exact absurd H (by simp)
           ·rw [if_neg c20] at H
            exact absurd H (by simp)
          ·rw [if_neg c19] at H
           have c19b0 : (x5_3 == 0) = false := beq_eq_false_iff_ne.mpr c19
           have c19b1 : (x5_3 != 0) = true := bne_iff_ne.mpr c19
           by_cases c26 : x5_3 = 1
           ·rw [if_pos c26] at H
            have c26b0 : (x5_3 == 1) = true := beq_iff_eq.mpr c26
            have c26b1 : (x5_3 != 1) = false := bne_eq_false_iff_eq.mpr c26
            clear c26
            by_cases c27 : x1_3.length < 1759218604441
            ·rw [if_pos c27] at H
             have LMc27 := Aside0.mk c27
             clear c27
             obtain ⟨y209, hy209⟩ : ∃ y_ : List (S68), y_ = (x1_3 ++ [(⟨(wrap64 (97 + (wrap64 (8 * x5_3)))) % 256, (⟨3, 0, 2, false, false⟩ : S59), 2, 1, 3, 0, 0⟩ : S68)]) := ⟨_, rfl⟩
             replace H : (if y209.length < 1759218604441 then ((some (y209 ++ [(⟨(wrap64 (98 + (wrap64 (8 * x5_3)))) % 256, (⟨5, 0, 2, false, false⟩ : S59), 1, 0, 3, 3, 0⟩ : S68)] : List (S68))).bind fun y212 => (if y212.length < 1759218604441 then (stockaderef02_Rows.l2 k3 (y212 ++ [(⟨(wrap64 (99 + (wrap64 (8 * x5_3)))) % 256, (⟨4, 0, 2, false, false⟩ : S59), 1, 1, 3, 0, 0⟩ : S68)]) (wrap64 (x5_3 + 1))) else (none))) else (none)) = some r := by first | (rw [hy209]; with_reducible exact H) | (have H2_ := (Option.bind_some _ _).symm.trans H; rw [hy209]; with_reducible exact H2_) | (have H2_ := (Option.bind_some _ _).symm.trans H; with_reducible exact H2_) | with_reducible exact H | (rw [hy209]; exact H) | exact H
             have Ny209 := Aside0.mk hy209
             clear hy209
             by_cases c28 : y209.length < 1759218604441
             ·rw [if_pos c28] at H
              have LMc28 := Aside0.mk c28
              clear c28
              obtain ⟨y212, hy212⟩ : ∃ y_ : List (S68), y_ = (y209 ++ [(⟨(wrap64 (98 + (wrap64 (8 * x5_3)))) % 256, (⟨5, 0, 2, false, false⟩ : S59), 1, 0, 3, 3, 0⟩ : S68)]) := ⟨_, rfl⟩
              replace H : (if y212.length < 1759218604441 then (stockaderef02_Rows.l2 k3 (y212 ++ [(⟨(wrap64 (99 + (wrap64 (8 * x5_3)))) % 256, (⟨4, 0, 2, false, false⟩ : S59), 1, 1, 3, 0, 0⟩ : S68)]) (wrap64 (x5_3 + 1))) else (none)) = some r := by first | (rw [hy212]; with_reducible exact H) | (have H2_ := (Option.bind_some _ _).symm.trans H; rw [hy212]; with_reducible exact H2_) | (have H2_ := (Option.bind_some _ _).symm.trans H; with_reducible exact H2_) | with_reducible exact H | (rw [hy212]; exact H) | exact H
              have Ny212 := Aside0.mk hy212
              clear hy212
              by_cases c29 : y212.length < 1759218604441
              ·rw [if_pos c29] at H
               have LMc29 := Aside0.mk c29
               clear c29
               obtain ⟨y215, hy215⟩ : ∃ y_ : List (S68), y_ = (y212 ++ [(⟨(wrap64 (99 + (wrap64 (8 * x5_3)))) % 256, (⟨4, 0, 2, false, false⟩ : S59), 1, 1, 3, 0, 0⟩ : S68)]) := ⟨_, rfl⟩
               replace H : (stockaderef02_Rows.l2 k3 y215 (wrap64 (x5_3 + 1))) = some r := by first | (rw [hy215]; with_reducible exact H) | (have H2_ := (Option.bind_some _ _).symm.trans H; rw [hy215]; with_reducible exact H2_) | (have H2_ := (Option.bind_some _ _).symm.trans H; with_reducible exact H2_) | with_reducible exact H | (rw [hy215]; exact H) | exact H
               have Ny215 := Aside0.mk hy215
               clear hy215
               have H' := Aside0.mk H
               clear H
               go_wp2_with (first | ((with_reducible refine gate_builtin (b := .append) (xs := #[.tmp 81, .tmp 89]) rfl ?_); at_builtin; refine Kd.R_append k68 (w0 := w) w.heap.size rfl (.tmp 81) (.tmp 89) 74 68 (.agg #[(.int .u8 0), (.int .i64 0), (.int .i64 0), (.int .i64 0), (.bool false), (.bool false), (.int .i64 0), (.int .i64 0), (.int .i64 0), (.int .i64 0), (.int .i64 0)]) 80 rfl Tryd.underlying74 info68 rfl (by decide) (by omega) u1 x1_3 (⟨(wrap64 (97 + (wrap64 (8 * x5_3)))) % 256, (⟨3, 0, 2, false, false⟩ : S59), 2, 1, 3, 0, 0⟩ : S68) [.int .u8 ((wrap64 (97 + (wrap64 (8 * x5_3)))) % 256), .int .i64 3, .int .i64 0, .int .i64 2, .bool false, .bool false, .int .i64 2, .int .i64 1, .int .i64 3, .int .i64 0, .int .i64 0] (fun _ => True) (fun _ => False) rfl rfl ?aP (fun _ hk => hk.elim) ?aF ?aO ?aB ?aS ?aL ?_; (case aP => exact k68_mkM _ _ _ (⟨(wrap64 (97 + (wrap64 (8 * x5_3)))) % 256, (⟨3, 0, 2, false, false⟩ : S59), 2, 1, 3, 0, 0⟩ : S68)); (case aB => exact b_now); (case aF => exact (fun _ _ => trivial)); (case aO => exact (by (with_reducible repeat (first | apply Kd.R_alloc | apply Kd.R_drewN | apply Kd.R_drew)); exact HO_1.out)); (case aS => exact (below_size b_now)); (case aL => have := LMc27.out; omega); intro v210 w30 ho hb hg hat; rw [← Ny209.out] at ho; have n0_ := Aside0.mk (hb); have n1_ := Aside0.mk (ho); clear HB; clear HO_1; have HB := n0_; have HO211 := n1_; clear n0_ n1_; clear ho hb hg hat) | ((with_reducible refine gate_builtin (b := .append) (xs := #[.tmp 91, .tmp 99]) rfl ?_); at_builtin; refine Kd.R_append k68 (w0 := w) w.heap.size rfl (.tmp 91) (.tmp 99) 74 68 (.agg #[(.int .u8 0), (.int .i64 0), (.int .i64 0), (.int .i64 0), (.bool false), (.bool false), (.int .i64 0), (.int .i64 0), (.int .i64 0), (.int .i64 0), (.int .i64 0)]) 80 rfl Tryd.underlying74 info68 rfl (by decide) (by omega) v210 y209 (⟨(wrap64 (98 + (wrap64 (8 * x5_3)))) % 256, (⟨5, 0, 2, false, false⟩ : S59), 1, 0, 3, 3, 0⟩ : S68) [.int .u8 ((wrap64 (98 + (wrap64 (8 * x5_3)))) % 256), .int .i64 5, .int .i64 0, .int .i64 2, .bool false, .bool false, .int .i64 1, .int .i64 0, .int .i64 3, .int .i64 3, .int .i64 0] (fun _ => True) (fun _ => False) rfl rfl ?aP (fun _ hk => hk.elim) ?aF ?aO ?aB ?aS ?aL ?_; (case aP => exact k68_mkM _ _ _ (⟨(wrap64 (98 + (wrap64 (8 * x5_3)))) % 256, (⟨5, 0, 2, false, false⟩ : S59), 1, 0, 3, 3, 0⟩ : S68)); (case aB => exact b_now); (case aF => exact (fun _ _ => trivial)); (case aO => exact (by (with_reducible repeat (first | apply Kd.R_alloc | apply Kd.R_drewN | apply Kd.R_drew)); exact HO211.out)); (case aS => exact (below_size b_now)); (case aL => have := LMc28.out; omega); intro v213 w31 ho hb hg hat; rw [← Ny212.out] at ho; have n0_ := Aside0.mk (hb); have n1_ := Aside0.mk (ho); clear HB; clear HO211; have HB := n0_; have HO214 := n1_; clear n0_ n1_; clear ho hb hg hat) | ((with_reducible refine gate_builtin (b := .append) (xs := #[.tmp 101, .tmp 109]) rfl ?_); at_builtin; refine Kd.R_append k68 (w0 := w) w.heap.size rfl (.tmp 101) (.tmp 109) 74 68 (.agg #[(.int .u8 0), (.int .i64 0), (.int .i64 0), (.int .i64 0), (.bool false), (.bool false), (.int .i64 0), (.int .i64 0), (.int .i64 0), (.int .i64 0), (.int .i64 0)]) 80 rfl Tryd.underlying74 info68 rfl (by decide) (by omega) v213 y212 (⟨(wrap64 (99 + (wrap64 (8 * x5_3)))) % 256, (⟨4, 0, 2, false, false⟩ : S59), 1, 1, 3, 0, 0⟩ : S68) [.int .u8 ((wrap64 (99 + (wrap64 (8 * x5_3)))) % 256), .int .i64 4, .int .i64 0, .int .i64 2, .bool false, .bool false, .int .i64 1, .int .i64 1, .int .i64 3, .int .i64 0, .int .i64 0] (fun _ => True) (fun _ => False) rfl rfl ?aP (fun _ hk => hk.elim) ?aF ?aO ?aB ?aS ?aL ?_; (case aP => exact k68_mkM _ _ _ (⟨(wrap64 (99 + (wrap64 (8 * x5_3)))) % 256, (⟨4, 0, 2, false, false⟩ : S59), 1, 1, 3, 0, 0⟩ : S68)); (case aB => exact b_now); (case aF => exact (fun _ _ => trivial)); (case aO => exact (by (with_reducible repeat (first | apply Kd.R_alloc | apply Kd.R_drewN | apply Kd.R_drew)); exact HO214.out)); (case aS => exact (below_size b_now)); (case aL => have := LMc29.out; omega); intro v216 w32 ho hb hg hat; rw [← Ny215.out] at ho; have n0_ := Aside0.mk (hb); have n1_ := Aside0.mk (ho); clear HB; clear HO214; have HB := n0_; have HO217 := n1_; clear n0_ n1_; clear ho hb hg hat))
               go_roundg k3
               case measure => have := HK1.out; have := HK2.out; have := HK3.out; omega
               case rel => exact ⟨(y215), (wrap64 (x5_3 + 1)), eq_now, H', ⟨by have := HK1.out; have := HK2.out; have := HK3.out; omega⟩, ⟨by (with_reducible repeat (first | apply Kd.R_alloc | apply Kd.R_drewN | apply Kd.R_drew)); exact HO217.out⟩, ⟨b_now⟩⟩
              ·rw [if_neg c29] at H
               exact absurd H (by simp)
             ·rw [if_neg c28] at H
              exact absurd H (by simp)
            ·rw [if_neg c27] at H
             exact absurd H (by simp)
           ·rw [if_neg c26] at H
            have c26b0 : (x5_3 == 1) = false := beq_eq_false_iff_ne.mpr c26
            have c26b1 : (x5_3 != 1) = true := bne_iff_ne.mpr c26
            by_cases c33 : x5_3 = 2
            ·rw [if_pos c33] at H
             have c33b0 : (x5_3 == 2) = true := beq_iff_eq.mpr c33
             have c33b1 : (x5_3 != 2) = false := bne_eq_false_iff_eq.mpr c33
             clear c33
             by_cases c34 : x1_3.length < 1759218604441
             ·rw [if_pos c34] at H
              have LMc34 := Aside0.mk c34
              clear c34
              obtain ⟨y218, hy218⟩ : ∃ y_ : List (S68), y_ = (x1_3 ++ [(⟨(wrap64 (97 + (wrap64 (8 * x5_3)))) % 256, (⟨3, 0, 1, false, false⟩ : S59), 2, 1, 3, 0, 0⟩ : S68)]) := ⟨_, rfl⟩
              replace H : (if y218.length < 1759218604441 then ((some (y218 ++ [(⟨(wrap64 (98 + (wrap64 (8 * x5_3)))) % 256, (⟨5, 0, 1, false, false⟩ : S59), 1, 0, 3, 3, 0⟩ : S68)] : List (S68))).bind fun y221 => (if y221.length < 1759218604441 then (stockaderef02_Rows.l2 k3 (y221 ++ [(⟨(wrap64 (99 + (wrap64 (8 * x5_3)))) % 256, (⟨4, 0, 1, false, false⟩ : S59), 1, 1, 3, 0, 0⟩ : S68)]) (wrap64 (x5_3 + 1))) else (none))) else (none)) = some r := by first | (rw [hy218]; with_reducible exact H) | (have H2_ := (Option.bind_some _ _).symm.trans H; rw [hy218]; with_reducible exact H2_) | (have H2_ := (Option.bind_some _ _).symm.trans H; with_reducible exact H2_) | with_reducible exact H | (rw [hy218]; exact H) | exact H
              have Ny218 := Aside0.mk hy218
              clear hy218
              by_cases c35 : y218.length < 1759218604441
              ·rw [if_pos c35] at H
               have LMc35 := Aside0.mk c35
               clear c35
               obtain ⟨y221, hy221⟩ : ∃ y_ : List (S68), y_ = (y218 ++ [(⟨(wrap64 (98 + (wrap64 (8 * x5_3)))) % 256, (⟨5, 0, 1, false, false⟩ : S59), 1, 0, 3, 3, 0⟩ : S68)]) := ⟨_, rfl⟩
               replace H : (if y221.length < 1759218604441 then (stockaderef02_Rows.l2 k3 (y221 ++ [(⟨(wrap64 (99 + (wrap64 (8 * x5_3)))) % 256, (⟨4, 0, 1, false, false⟩ : S59), 1, 1, 3, 0, 0⟩ : S68)]) (wrap64 (x5_3 + 1))) else (none)) = some r := by first | (rw [hy221]; with_reducible exact H) | (have H2_ := (Option.bind_some _ _).symm.trans H; rw [hy221]; with_reducible exact H2_) | (have H2_ := (Option.bind_some _ _).symm.trans H; with_reducible exact H2_) | with_reducible exact H | (rw [hy221]; exact H) | exact H
               have Ny221 := Aside0.mk hy221
               clear hy221
               by_cases c36 : y221.length < 1759218604441
               ·rw [if_pos c36] at H
                have LMc36 := Aside0.mk c36
                clear c36
                obtain ⟨y224, hy224⟩ : ∃ y_ : List (S68), y_ = (y221 ++ [(⟨(wrap64 (99 + (wrap64 (8 * x5_3)))) % 256, (⟨4, 0, 1, false, false⟩ : S59), 1, 1, 3, 0, 0⟩ : S68)]) := ⟨_, rfl⟩
                replace H : (stockaderef02_Rows.l2 k3 y224 (wrap64 (x5_3 + 1))) = some r := by first | (rw [hy224]; with_reducible exact H) | (have H2_ := (Option.bind_some _ _).symm.trans H; rw [hy224]; with_reducible exact H2_) | (have H2_ := (Option.bind_some _ _).symm.trans H; with_reducible exact H2_) | with_reducible exact H | (rw [hy224]; exact H) | exact H
                have Ny224 := Aside0.mk hy224
                clear hy224
                have H' := Aside0.mk H
                clear H
                go_wp2_with (first | ((with_reducible refine gate_builtin (b := .append) (xs := #[.tmp 81, .tmp 89]) rfl ?_); at_builtin; refine Kd.R_append k68 (w0 := w) w.heap.size rfl (.tmp 81) (.tmp 89) 74 68 (.agg #[(.int .u8 0), (.int .i64 0), (.int .i64 0), (.int .i64 0), (.bool false), (.bool false), (.int .i64 0), (.int .i64 0), (.int .i64 0), (.int .i64 0), (.int .i64 0)]) 80 rfl Tryd.underlying74 info68 rfl (by decide) (by omega) u1 x1_3 (⟨(wrap64 (97 + (wrap64 (8 * x5_3)))) % 256, (⟨3, 0, 1, false, false⟩ : S59), 2, 1, 3, 0, 0⟩ : S68) [.int .u8 ((wrap64 (97 + (wrap64 (8 * x5_3)))) % 256), .int .i64 3, .int .i64 0, .int .i64 1, .bool false, .bool false, .int .i64 2, .int .i64 1, .int .i64 3, .int .i64 0, .int .i64 0] (fun _ => True) (fun _ => False) rfl rfl ?aP (fun _ hk => hk.elim) ?aF ?aO ?aB ?aS ?aL ?_; (case aP => exact k68_mkM _ _ _ (⟨(wrap64 (97 + (wrap64 (8 * x5_3)))) % 256, (⟨3, 0, 1, false, false⟩ : S59), 2, 1, 3, 0, 0⟩ : S68)); (case aB => exact b_now); (case aF => exact (fun _ _ => trivial)); (case aO => exact (by (with_reducible repeat (first | apply Kd.R_alloc | apply Kd.R_drewN | apply Kd.R_drew)); exact HO_1.out)); (case aS => exact (below_size b_now)); (case aL => have := LMc34.out; omega); intro v219 w37 ho hb hg hat; rw [← Ny218.out] at ho; have n0_ := Aside0.mk (hb); have n1_ := Aside0.mk (ho); clear HB; clear HO_1; have HB := n0_; have HO220 := n1_; clear n0_ n1_; clear ho hb hg hat) | ((with_reducible refine gate_builtin (b := .append) (xs := #[.tmp 91, .tmp 99]) rfl ?_); at_builtin; refine Kd.R_append k68 (w0 := w) w.heap.size rfl (.tmp 91) (.tmp 99) 74 68 (.agg #[(.int .u8 0), (.int .i64 0), (.int .i64 0), (.int .i64 0), (.bool false), (.bool false), (.int .i64 0), (.int .i64 0), (.int .i64 0), (.int .i64 0), (.int .i64 0)]) 80 rfl Tryd.underlying74 info68 rfl (by decide) (by omega) v219 y218 (⟨(wrap64 (98 + (wrap64 (8 * x5_3)))) % 256, (⟨5, 0, 1, false, false⟩ : S59), 1, 0, 3, 3, 0⟩ : S68) [.int .u8 ((wrap64 (98 + (wrap64 (8 * x5_3)))) % 256), .int .i64 5, .int .i64 0, .int .i64 1, .bool false, .bool false, .int .i64 1, .int .i64 0, .int .i64 3, .int .i64 3, .int .i64 0] (fun _ => True) (fun _ => False) rfl rfl ?aP (fun _ hk => hk.elim) ?aF ?aO ?aB ?aS ?aL ?_; (case aP => exact k68_mkM _ _ _ (⟨(wrap64 (98 + (wrap64 (8 * x5_3)))) % 256, (⟨5, 0, 1, false, false⟩ : S59), 1, 0, 3, 3, 0⟩ : S68)); (case aB => exact b_now); (case aF => exact (fun _ _ => trivial)); (case aO => exact (by (with_reducible repeat (first | apply Kd.R_alloc | apply Kd.R_drewN | apply Kd.R_drew)); exact HO220.out)); (case aS => exact (below_size b_now)); (case aL => have := LMc35.out; omega); intro v222 w38 ho hb hg hat; rw [← Ny221.out] at ho; have n0_ := Aside0.mk (hb); have n1_ := Aside0.mk (ho); clear HB; clear HO220; have HB := n0_; have HO223 := n1_; clear n0_ n1_; clear ho hb hg hat) | ((with_reducible refine gate_builtin (b := .append) (xs := #[.tmp 101, .tmp 109]) rfl ?_); at_builtin; refine Kd.R_append k68 (w0 := w) w.heap.size rfl (.tmp 101) (.tmp 109) 74 68 (.agg #[(.int .u8 0), (.int .i64 0), (.int .i64 0), (.int .i64 0), (.bool false), (.bool false), (.int .i64 0), (.int .i64 0), (.int .i64 0), (.int .i64 0), (.int .i64 0)]) 80 rfl Tryd.underlying74 info68 rfl (by decide) (by omega) v222 y221 (⟨(wrap64 (99 + (wrap64 (8 * x5_3)))) % 256, (⟨4, 0, 1, false, false⟩ : S59), 1, 1, 3, 0, 0⟩ : S68) [.int .u8 ((wrap64 (99 + (wrap64 (8 * x5_3)))) % 256), .int .i64 4, .int .i64 0, .int .i64 1, .bool false, .bool false, .int .i64 1, .int .i64 1, .int .i64 3, .int .i64 0, .int .i64 0] (fun _ => True) (fun _ => False) rfl rfl ?aP (fun _ hk => hk.elim) ?aF ?aO ?aB ?aS ?aL ?_; (case aP => exact k68_mkM _ _ _ (⟨(wrap64 (99 + (wrap64 (8 * x5_3)))) % 256, (⟨4, 0, 1, false, false⟩ : S59), 1, 1, 3, 0, 0⟩ : S68)); (case aB => exact b_now); (case aF => exact (fun _ _ => trivial)); (case aO => exact (by (with_reducible repeat (first | apply Kd.R_alloc | apply Kd.R_drewN | apply Kd.R_drew)); exact HO223.out)); (case aS => exact (below_size b_now)); (case aL => have := LMc36.out; omega); intro v225 w39 ho hb hg hat; rw [← Ny224.out] at ho; have n0_ := Aside0.mk (hb); have n1_ := Aside0.mk (ho); clear HB; clear HO223; have HB := n0_; have HO226 := n1_; clear n0_ n1_; clear ho hb hg hat))
                go_roundg k3
                case measure => have := HK1.out; have := HK2.out; have := HK3.out; omega
                case rel => exact ⟨(y224), (wrap64 (x5_3 + 1)), eq_now, H', ⟨by have := HK1.out; have := HK2.out; have := HK3.out; omega⟩, ⟨by (with_reducible repeat (first | apply Kd.R_alloc | apply Kd.R_drewN | apply Kd.R_drew)); exact HO226.out⟩, ⟨b_now⟩⟩
               ·rw [if_neg c36] at H
                exact absurd H (by simp)
              ·rw [if_neg c35] at H
               exact absurd H (by simp)
             ·rw [if_neg c34] at H
              exact absurd H (by simp)
            ·rw [if_neg c33] at H
             have c33b0 : (x5_3 == 2) = false := beq_eq_false_iff_ne.mpr c33
             have c33b1 : (x5_3 != 2) = true := bne_iff_ne.mpr c33
             by_cases c40 : x1_3.length < 1759218604441
             ·rw [if_pos c40] at H
              have LMc40 := Aside0.mk c40
              clear c40
              obtain ⟨y227, hy227⟩ : ∃ y_ : List (S68), y_ = (x1_3 ++ [(⟨(wrap64 (97 + (wrap64 (8 * x5_3)))) % 256, (⟨3, 0, 8, false, false⟩ : S59), 2, 1, 3, 0, 0⟩ : S68)]) := ⟨_, rfl⟩
              replace H : (if y227.length < 1759218604441 then ((some (y227 ++ [(⟨(wrap64 (98 + (wrap64 (8 * x5_3)))) % 256, (⟨5, 0, 8, false, false⟩ : S59), 1, 0, 3, 3, 0⟩ : S68)] : List (S68))).bind fun y230 => (if y230.length < 1759218604441 then (stockaderef02_Rows.l2 k3 (y230 ++ [(⟨(wrap64 (99 + (wrap64 (8 * x5_3)))) % 256, (⟨4, 0, 8, false, false⟩ : S59), 1, 1, 3, 0, 0⟩ : S68)]) (wrap64 (x5_3 + 1))) else (none))) else (none)) = some r := by first | (rw [hy227]; with_reducible exact H) | (have H2_ := (Option.bind_some _ _).symm.trans H; rw [hy227]; with_reducible exact H2_) | (have H2_ := (Option.bind_some _ _).symm.trans H; with_reducible exact H2_) | with_reducible exact H | (rw [hy227]; exact H) | exact H
              have Ny227 := Aside0.mk hy227
              clear hy227
              by_cases c41 : y227.length < 1759218604441
              ·rw [if_pos c41] at H
               have LMc41 := Aside0.mk c41
               clear c41
               obtain ⟨y230, hy230⟩ : ∃ y_ : List (S68), y_ = (y227 ++ [(⟨(wrap64 (98 + (wrap64 (8 * x5_3)))) % 256, (⟨5, 0, 8, false, false⟩ : S59), 1, 0, 3, 3, 0⟩ : S68)]) := ⟨_, rfl⟩
               replace H : (if y230.length < 1759218604441 then (stockaderef02_Rows.l2 k3 (y230 ++ [(⟨(wrap64 (99 + (wrap64 (8 * x5_3)))) % 256, (⟨4, 0, 8, false, false⟩ : S59), 1, 1, 3, 0, 0⟩ : S68)]) (wrap64 (x5_3 + 1))) else (none)) = some r := by first | (rw [hy230]; with_reducible exact H) | (have H2_ := (Option.bind_some _ _).symm.trans H; rw [hy230]; with_reducible exact H2_) | (have H2_ := (Option.bind_some _ _).symm.trans H; with_reducible exact H2_) | with_reducible exact H | (rw [hy230]; exact H) | exact H
               have Ny230 := Aside0.mk hy230
               clear hy230
               by_cases c42 : y230.length < 1759218604441
               ·rw [if_pos c42] at H
                have LMc42 := Aside0.mk c42
                clear c42
                obtain ⟨y233, hy233⟩ : ∃ y_ : List (S68), y_ = (y230 ++ [(⟨(wrap64 (99 + (wrap64 (8 * x5_3)))) % 256, (⟨4, 0, 8, false, false⟩ : S59), 1, 1, 3, 0, 0⟩ : S68)]) := ⟨_, rfl⟩
                replace H : (stockaderef02_Rows.l2 k3 y233 (wrap64 (x5_3 + 1))) = some r := by first | (rw [hy233]; with_reducible exact H) | (have H2_ := (Option.bind_some _ _).symm.trans H; rw [hy233]; with_reducible exact H2_) | (have H2_ := (Option.bind_some _ _).symm.trans H; with_reducible exact H2_) | with_reducible exact H | (rw [hy233]; exact H) | exact H
                have Ny233 := Aside0.mk hy233
                clear hy233
                have H' := Aside0.mk H
                clear H
                go_wp2_with (first | ((with_reducible refine gate_builtin (b := .append) (xs := #[.tmp 81, .tmp 89]) rfl ?_); at_builtin; refine Kd.R_append k68 (w0 := w) w.heap.size rfl (.tmp 81) (.tmp 89) 74 68 (.agg #[(.int .u8 0), (.int .i64 0), (.int .i64 0), (.int .i64 0), (.bool false), (.bool false), (.int .i64 0), (.int .i64 0), (.int .i64 0), (.int .i64 0), (.int .i64 0)]) 80 rfl Tryd.underlying74 info68 rfl (by decide) (by omega) u1 x1_3 (⟨(wrap64 (97 + (wrap64 (8 * x5_3)))) % 256, (⟨3, 0, 8, false, false⟩ : S59), 2, 1, 3, 0, 0⟩ : S68) [.int .u8 ((wrap64 (97 + (wrap64 (8 * x5_3)))) % 256), .int .i64 3, .int .i64 0, .int .i64 8, .bool false, .bool false, .int .i64 2, .int .i64 1, .int .i64 3, .int .i64 0, .int .i64 0] (fun _ => True) (fun _ => False) rfl rfl ?aP (fun _ hk => hk.elim) ?aF ?aO ?aB ?aS ?aL ?_; (case aP => exact k68_mkM _ _ _ (⟨(wrap64 (97 + (wrap64 (8 * x5_3)))) % 256, (⟨3, 0, 8, false, false⟩ : S59), 2, 1, 3, 0, 0⟩ : S68)); (case aB => exact b_now); (case aF => exact (fun _ _ => trivial)); (case aO => exact (by (with_reducible repeat (first | apply Kd.R_alloc | apply Kd.R_drewN | apply Kd.R_drew)); exact HO_1.out)); (case aS => exact (below_size b_now)); (case aL => have := LMc40.out; omega); intro v228 w43 ho hb hg hat; rw [← Ny227.out] at ho; have n0_ := Aside0.mk (hb); have n1_ := Aside0.mk (ho); clear HB; clear HO_1; have HB := n0_; have HO229 := n1_; clear n0_ n1_; clear ho hb hg hat) | ((with_reducible refine gate_builtin (b := .append) (xs := #[.tmp 91, .tmp 99]) rfl ?_); at_builtin; refine Kd.R_append k68 (w0 := w) w.heap.size rfl (.tmp 91) (.tmp 99) 74 68 (.agg #[(.int .u8 0), (.int .i64 0), (.int .i64 0), (.int .i64 0), (.bool false), (.bool false), (.int .i64 0), (.int .i64 0), (.int .i64 0), (.int .i64 0), (.int .i64 0)]) 80 rfl Tryd.underlying74 info68 rfl (by decide) (by omega) v228 y227 (⟨(wrap64 (98 + (wrap64 (8 * x5_3)))) % 256, (⟨5, 0, 8, false, false⟩ : S59), 1, 0, 3, 3, 0⟩ : S68) [.int .u8 ((wrap64 (98 + (wrap64 (8 * x5_3)))) % 256), .int .i64 5, .int .i64 0, .int .i64 8, .bool false, .bool false, .int .i64 1, .int .i64 0, .int .i64 3, .int .i64 3, .int .i64 0] (fun _ => True) (fun _ => False) rfl rfl ?aP (fun _ hk => hk.elim) ?aF ?aO ?aB ?aS ?aL ?_; (case aP => exact k68_mkM _ _ _ (⟨(wrap64 (98 + (wrap64 (8 * x5_3)))) % 256, (⟨5, 0, 8, false, false⟩ : S59), 1, 0, 3, 3, 0⟩ : S68)); (case aB => exact b_now); (case aF => exact (fun _ _ => trivial)); (case aO => exact (by (with_reducible repeat (first | apply Kd.R_alloc | apply Kd.R_drewN | apply Kd.R_drew)); exact HO229.out)); (case aS => exact (below_size b_now)); (case aL => have := LMc41.out; omega); intro v231 w44 ho hb hg hat; rw [← Ny230.out] at ho; have n0_ := Aside0.mk (hb); have n1_ := Aside0.mk (ho); clear HB; clear HO229; have HB := n0_; have HO232 := n1_; clear n0_ n1_; clear ho hb hg hat) | ((with_reducible refine gate_builtin (b := .append) (xs := #[.tmp 101, .tmp 109]) rfl ?_); at_builtin; refine Kd.R_append k68 (w0 := w) w.heap.size rfl (.tmp 101) (.tmp 109) 74 68 (.agg #[(.int .u8 0), (.int .i64 0), (.int .i64 0), (.int .i64 0), (.bool false), (.bool false), (.int .i64 0), (.int .i64 0), (.int .i64 0), (.int .i64 0), (.int .i64 0)]) 80 rfl Tryd.underlying74 info68 rfl (by decide) (by omega) v231 y230 (⟨(wrap64 (99 + (wrap64 (8 * x5_3)))) % 256, (⟨4, 0, 8, false, false⟩ : S59), 1, 1, 3, 0, 0⟩ : S68) [.int .u8 ((wrap64 (99 + (wrap64 (8 * x5_3)))) % 256), .int .i64 4, .int .i64 0, .int .i64 8, .bool false, .bool false, .int .i64 1, .int .i64 1, .int .i64 3, .int .i64 0, .int .i64 0] (fun _ => True) (fun _ => False) rfl rfl ?aP (fun _ hk => hk.elim) ?aF ?aO ?aB ?aS ?aL ?_; (case aP => exact k68_mkM _ _ _ (⟨(wrap64 (99 + (wrap64 (8 * x5_3)))) % 256, (⟨4, 0, 8, false, false⟩ : S59), 1, 1, 3, 0, 0⟩ : S68)); (case aB => exact b_now); (case aF => exact (fun _ _ => trivial)); (case aO => exact (by (with_reducible repeat (first | apply Kd.R_alloc | apply Kd.R_drewN | apply Kd.R_drew)); exact HO232.out)); (case aS => exact (below_size b_now)); (case aL => have := LMc42.out; omega); intro v234 w45 ho hb hg hat; rw [← Ny233.out] at ho; have n0_ := Aside0.mk (hb); have n1_ := Aside0.mk (ho); clear HB; clear HO232; have HB := n0_; have HO235 := n1_; clear n0_ n1_; clear ho hb hg hat))
                go_roundg k3
                case measure => have := HK1.out; have := HK2.out; have := HK3.out; omega
                case rel => exact ⟨(y233), (wrap64 (x5_3 + 1)), eq_now, H', ⟨by have := HK1.out; have := HK2.out; have := HK3.out; omega⟩, ⟨by (with_reducible repeat (first | apply Kd.R_alloc | apply Kd.R_drewN | apply Kd.R_drew)); exact HO235.out⟩, ⟨b_now⟩⟩
               ·rw [if_neg c42] at H
                exact absurd H (by simp)
              ·rw [if_neg c41] at H
               exact absurd H (by simp)
             ·rw [if_neg c40] at H
              exact absurd H (by simp)
         ·rw [if_neg c18] at H
          have c18b0 : decide (x5_3 < 4) = false := decide_eq_false c18
          clear c18
          have H' := Aside0.mk H
          clear H
          go_wp2
          go_loopg [1, 7] k3 (fun kq v1 v7 w' => ∃ (x1_4 : List (S68)) (x7_4 : Int), v7 = .int .i64 x7_4 ∧ Aside0 (stockaderef02_Rows.l3 kq x1_4 x7_4 = some r) ∧ Aside0 (kq ≤ k3) ∧ Aside0 (Kd.R k68 68 w' w.heap.size (fun _ => True) v1 x1_4) ∧ Aside0 (Below w.heap.size w w'))
          case atStart => exact ⟨(x1_3), (1), eq_now, H', ⟨Nat.le_refl _⟩, ⟨by (with_reducible repeat (first | apply Kd.R_alloc | apply Kd.R_drewN | apply Kd.R_drew)); exact HO_1.out⟩, ⟨b_now⟩⟩
          case round =>
           clear H'
           try clear c1
           try clear c1b0
           try clear c2
           try clear c2b0
           try clear c2b1
           try clear p2
           try clear c3
           try clear c4
           try clear p6
           try clear c7
           try clear c8
           try clear c9
           try clear c10
           try clear c15
           try clear c15b0
           try clear c16
           try clear c18
           try clear c18b0
           try clear c19
           try clear c19b0
           try clear c19b1
           try clear c20
           try clear c21
           try clear c22
           try clear c26
           try clear c26b0
           try clear c26b1
           try clear c27
           try clear c28
           try clear c29
           try clear c33
           try clear c33b0
           try clear c33b1
           try clear c34
           try clear c35
           try clear c36
           try clear c38
           try clear c40
           try clear c41
           try clear c42
           try clear p2
           try clear p6
           obtain ⟨x1_4, x7_4, rfl, HA, HK4, HO_1, HB⟩ := hrel
           cases gk with
           | zero => exact absurd HA.out (by simp [stockaderef02_Rows.l3])
           | succ k4 =>
            have H := HA.out
            clear HA
            simp only [stockaderef02_Rows.l3] at H
            by_cases c46 : x7_4 ≤ 13
            ·rw [if_pos c46] at H
             have c46b0 : decide (x7_4 ≤ 13) = true := decide_eq_true c46
             clear c46
             by_cases c47 : x7_4 = 8
             ·rw [if_pos c47] at H
              have c47b0 : (x7_4 == 8) = true := beq_iff_eq.mpr c47
              have c47b1 : (x7_4 != 8) = false := bne_eq_false_iff_eq.mpr c47
              clear c47
              have H' := Aside0.mk H
              clear H
              go_wp2
              go_roundg k4
              case measure => have := HK1.out; have := HK2.out; have := HK3.out; have := HK4.out; omega
              case rel => exact ⟨(x1_4), (wrap64 (x7_4 + 1)), eq_now, H', ⟨by have := HK1.out; have := HK2.out; have := HK3.out; have := HK4.out; omega⟩, ⟨by (with_reducible repeat (first | apply Kd.R_alloc | apply Kd.R_drewN | apply Kd.R_drew)); exact HO_1.out⟩, ⟨b_now⟩⟩
             ·rw [if_neg c47] at H
              have c47b0 : (x7_4 == 8) = false := beq_eq_false_iff_ne.mpr c47
              have c47b1 : (x7_4 != 8) = true := bne_iff_ne.mpr c47
              by_cases c48 : x7_4 = 9
              ·rw [if_pos c48] at H
               have c48b0 : (x7_4 == 9) = true := beq_iff_eq.mpr c48
               have c48b1 : (x7_4 != 9) = false := bne_eq_false_iff_eq.mpr c48
               clear c48
               have H' := Aside0.mk H
               clear H
               go_wp2
               go_roundg k4
               case measure => have := HK1.out; have := HK2.out; have := HK3.out; have := HK4.out; omega
               case rel => exact ⟨(x1_4), (wrap64 (x7_4 + 1)), eq_now, H', ⟨by have := HK1.out; have := HK2.out; have := HK3.out; have := HK4.out; omega⟩, ⟨by (with_reducible repeat (first | apply Kd.R_alloc | apply Kd.R_drewN | apply Kd.R_drew)); exact HO_1.out⟩, ⟨b_now⟩⟩
              ·rw [if_neg c48] at H
               have c48b0 : (x7_4 == 9) = false := beq_eq_false_iff_ne.mpr c48
               have c48b1 : (x7_4 != 9) = true := bne_iff_ne.mpr c48
               by_cases c49 : x1_4.length < 1759218604441
               ·rw [if_pos c49] at H
                have LMc49 := Aside0.mk c49
                clear c49
                obtain ⟨y236, hy236⟩ : ∃ y_ : List (S68), y_ = (x1_4 ++ [(⟨(wrap64 ((wrap64 (16 * x7_4)) + 5)) % 256, (⟨6, x7_4, 0, true, false⟩ : S59), 1, 0, 3, 3, 0⟩ : S68)]) := ⟨_, rfl⟩
                replace H : (if y236.length < 1759218604441 then ((some (y236 ++ [(⟨(wrap64 ((wrap64 (16 * x7_4)) + 6)) % 256, (⟨6, x7_4, 0, false, false⟩ : S59), 1, 0, 3, 3, 0⟩ : S68)] : List (S68))).bind fun y239 => (if y239.length < 1759218604441 then ((some (y239 ++ [(⟨(wrap64 ((wrap64 (16 * x7_4)) + 13)) % 256, (⟨6, x7_4, 0, true, true⟩ : S59), 1, 1, 3, 0, 0⟩ : S68)] : List (S68))).bind fun y242 => (if y242.length < 1759218604441 then (stockaderef02_Rows.l3 k4 (y242 ++ [(⟨(wrap64 ((wrap64 (16 * x7_4)) + 14)) % 256, (⟨6, x7_4, 0, false, true⟩ : S59), 1, 1, 3, 0, 0⟩ : S68)]) (wrap64 (x7_4 + 1))) else (none))) else (none))) else (none)) = some r := by first | (rw [hy236]; with_reducible exact H) | (have H2_ := (Option.bind_some _ _).symm.trans H; rw [hy236]; with_reducible exact H2_) | (have H2_ := (Option.bind_some _ _).symm.trans H; with_reducible exact H2_) | with_reducible exact H | (rw [hy236]; exact H) | exact H
                have Ny236 := Aside0.mk hy236
                clear hy236
                by_cases c50 : y236.length < 1759218604441
                ·rw [if_pos c50] at H
                 have LMc50 := Aside0.mk c50
                 clear c50
                 obtain ⟨y239, hy239⟩ : ∃ y_ : List (S68), y_ = (y236 ++ [(⟨(wrap64 ((wrap64 (16 * x7_4)) + 6)) % 256, (⟨6, x7_4, 0, false, false⟩ : S59), 1, 0, 3, 3, 0⟩ : S68)]) := ⟨_, rfl⟩
                 replace H : (if y239.length < 1759218604441 then ((some (y239 ++ [(⟨(wrap64 ((wrap64 (16 * x7_4)) + 13)) % 256, (⟨6, x7_4, 0, true, true⟩ : S59), 1, 1, 3, 0, 0⟩ : S68)] : List (S68))).bind fun y242 => (if y242.length < 1759218604441 then (stockaderef02_Rows.l3 k4 (y242 ++ [(⟨(wrap64 ((wrap64 (16 * x7_4)) + 14)) % 256, (⟨6, x7_4, 0, false, true⟩ : S59), 1, 1, 3, 0, 0⟩ : S68)]) (wrap64 (x7_4 + 1))) else (none))) else (none)) = some r := by first | (rw [hy239]; with_reducible exact H) | (have H2_ := (Option.bind_some _ _).symm.trans H; rw [hy239]; with_reducible exact H2_) | (have H2_ := (Option.bind_some _ _).symm.trans H; with_reducible exact H2_) | with_reducible exact H | (rw [hy239]; exact H) | exact H
                 have Ny239 := Aside0.mk hy239
                 clear hy239
                 by_cases c51 : y239.length < 1759218604441
                 ·rw [if_pos c51] at H
                  have LMc51 := Aside0.mk c51
                  clear c51
                  obtain ⟨y242, hy242⟩ : ∃ y_ : List (S68), y_ = (y239 ++ [(⟨(wrap64 ((wrap64 (16 * x7_4)) + 13)) % 256, (⟨6, x7_4, 0, true, true⟩ : S59), 1, 1, 3, 0, 0⟩ : S68)]) := ⟨_, rfl⟩
                  replace H : (if y242.length < 1759218604441 then (stockaderef02_Rows.l3 k4 (y242 ++ [(⟨(wrap64 ((wrap64 (16 * x7_4)) + 14)) % 256, (⟨6, x7_4, 0, false, true⟩ : S59), 1, 1, 3, 0, 0⟩ : S68)]) (wrap64 (x7_4 + 1))) else (none)) = some r := by first | (rw [hy242]; with_reducible exact H) | (have H2_ := (Option.bind_some _ _).symm.trans H; rw [hy242]; with_reducible exact H2_) | (have H2_ := (Option.bind_some _ _).symm.trans H; with_reducible exact H2_) | with_reducible exact H | (rw [hy242]; exact H) | exact H
                  have Ny242 := Aside0.mk hy242
                  clear hy242
                  by_cases c52 : y242.length < 1759218604441
                  ·rw [if_pos c52] at H
                   have LMc52 := Aside0.mk c52
                   clear c52
                   obtain ⟨y245, hy245⟩ : ∃ y_ : List (S68), y_ = (y242 ++ [(⟨(wrap64 ((wrap64 (16 * x7_4)) + 14)) % 256, (⟨6, x7_4, 0, false, true⟩ : S59), 1, 1, 3, 0, 0⟩ : S68)]) := ⟨_, rfl⟩
                   replace H : (stockaderef02_Rows.l3 k4 y245 (wrap64 (x7_4 + 1))) = some r := by first | (rw [hy245]; with_reducible exact H) | (have H2_ := (Option.bind_some _ _).symm.trans H; rw [hy245]; with_reducible exact H2_) | (have H2_ := (Option.bind_some _ _).symm.trans H; with_reducible exact H2_) | with_reducible exact H | (rw [hy245]; exact H) | exact H
                   have Ny245 := Aside0.mk hy245
                   clear hy245
                   have H' := Aside0.mk H
                   clear H
                   go_wp2_with (first | ((with_reducible refine gate_builtin (b := .append) (xs := #[.tmp 121, .tmp 129]) rfl ?_); at_builtin; refine Kd.R_append k68 (w0 := w) w.heap.size rfl (.tmp 121) (.tmp 129) 74 68 (.agg #[(.int .u8 0), (.int .i64 0), (.int .i64 0), (.int .i64 0), (.bool false), (.bool false), (.int .i64 0), (.int .i64 0), (.int .i64 0), (.int .i64 0), (.int .i64 0)]) 80 rfl Tryd.underlying74 info68 rfl (by decide) (by omega) u1 x1_4 (⟨(wrap64 ((wrap64 (16 * x7_4)) + 5)) % 256, (⟨6, x7_4, 0, true, false⟩ : S59), 1, 0, 3, 3, 0⟩ : S68) [.int .u8 ((wrap64 ((wrap64 (16 * x7_4)) + 5)) % 256), .int .i64 6, .int .i64 x7_4, .int .i64 0, .bool true, .bool false, .int .i64 1, .int .i64 0, .int .i64 3, .int .i64 3, .int .i64 0] (fun _ => True) (fun _ => False) rfl rfl ?aP (fun _ hk => hk.elim) ?aF ?aO ?aB ?aS ?aL ?_; (case aP => exact k68_mkM _ _ _ (⟨(wrap64 ((wrap64 (16 * x7_4)) + 5)) % 256, (⟨6, x7_4, 0, true, false⟩ : S59), 1, 0, 3, 3, 0⟩ : S68)); (case aB => exact b_now); (case aF => exact (fun _ _ => trivial)); (case aO => exact (by (with_reducible repeat (first | apply Kd.R_alloc | apply Kd.R_drewN | apply Kd.R_drew)); exact HO_1.out)); (case aS => exact (below_size b_now)); (case aL => have := LMc49.out; omega); intro v237 w53 ho hb hg hat; rw [← Ny236.out] at ho; have n0_ := Aside0.mk (hb); have n1_ := Aside0.mk (ho); clear HB; clear HO_1; have HB := n0_; have HO238 := n1_; clear n0_ n1_; clear ho hb hg hat) | ((with_reducible refine gate_builtin (b := .append) (xs := #[.tmp 131, .tmp 139]) rfl ?_); at_builtin; refine Kd.R_append k68 (w0 := w) w.heap.size rfl (.tmp 131) (.tmp 139) 74 68 (.agg #[(.int .u8 0), (.int .i64 0), (.int .i64 0), (.int .i64 0), (.bool false), (.bool false), (.int .i64 0), (.int .i64 0), (.int .i64 0), (.int .i64 0), (.int .i64 0)]) 80 rfl Tryd.underlying74 info68 rfl (by decide) (by omega) v237 y236 (⟨(wrap64 ((wrap64 (16 * x7_4)) + 6)) % 256, (⟨6, x7_4, 0, false, false⟩ : S59), 1, 0, 3, 3, 0⟩ : S68) [.int .u8 ((wrap64 ((wrap64 (16 * x7_4)) + 6)) % 256), .int .i64 6, .int .i64 x7_4, .int .i64 0, .bool false, .bool false, .int .i64 1, .int .i64 0, .int .i64 3, .int .i64 3, .int .i64 0] (fun _ => True) (fun _ => False) rfl rfl ?aP (fun _ hk => hk.elim) ?aF ?aO ?aB ?aS ?aL ?_; (case aP => exact k68_mkM _ _ _ (⟨(wrap64 ((wrap64 (16 * x7_4)) + 6)) % 256, (⟨6, x7_4, 0, false, false⟩ : S59), 1, 0, 3, 3, 0⟩ : S68)); (case aB => exact b_now); (case aF => exact (fun _ _ => trivial)); (case aO => exact (by (with_reducible repeat (first | apply Kd.R_alloc | apply Kd.R_drewN | apply Kd.R_drew)); exact HO238.out)); (case aS => exact (below_size b_now)); (case aL => have := LMc50.out; omega); intro v240 w54 ho hb hg hat; rw [← Ny239.out] at ho; have n0_ := Aside0.mk (hb); have n1_ := Aside0.mk (ho); clear HB; clear HO238; have HB := n0_; have HO241 := n1_; clear n0_ n1_; clear ho hb hg hat) | ((with_reducible refine gate_builtin (b := .append) (xs := #[.tmp 141, .tmp 149]) rfl ?_); at_builtin; refine Kd.R_append k68 (w0 := w) w.heap.size rfl (.tmp 141) (.tmp 149) 74 68 (.agg #[(.int .u8 0), (.int .i64 0), (.int .i64 0), (.int .i64 0), (.bool false), (.bool false), (.int .i64 0), (.int .i64 0), (.int .i64 0), (.int .i64 0), (.int .i64 0)]) 80 rfl Tryd.underlying74 info68 rfl (by decide) (by omega) v240 y239 (⟨(wrap64 ((wrap64 (16 * x7_4)) + 13)) % 256, (⟨6, x7_4, 0, true, true⟩ : S59), 1, 1, 3, 0, 0⟩ : S68) [.int .u8 ((wrap64 ((wrap64 (16 * x7_4)) + 13)) % 256), .int .i64 6, .int .i64 x7_4, .int .i64 0, .bool true, .bool true, .int .i64 1, .int .i64 1, .int .i64 3, .int .i64 0, .int .i64 0] (fun _ => True) (fun _ => False) rfl rfl ?aP (fun _ hk => hk.elim) ?aF ?aO ?aB ?aS ?aL ?_; (case aP => exact k68_mkM _ _ _ (⟨(wrap64 ((wrap64 (16 * x7_4)) + 13)) % 256, (⟨6, x7_4, 0, true, true⟩ : S59), 1, 1, 3, 0, 0⟩ : S68)); (case aB => exact b_now); (case aF => exact (fun _ _ => trivial)); (case aO => exact (by (with_reducible repeat (first | apply Kd.R_alloc | apply Kd.R_drewN | apply Kd.R_drew)); exact HO241.out)); (case aS => exact (below_size b_now)); (case aL => have := LMc51.out; omega); intro v243 w55 ho hb hg hat; rw [← Ny242.out] at ho; have n0_ := Aside0.mk (hb); have n1_ := Aside0.mk (ho); clear HB; clear HO241; have HB := n0_; have HO244 := n1_; clear n0_ n1_; clear ho hb hg hat) | ((with_reducible refine gate_builtin (b := .append) (xs := #[.tmp 151, .tmp 159]) rfl ?_); at_builtin; refine Kd.R_append k68 (w0 := w) w.heap.size rfl (.tmp 151) (.tmp 159) 74 68 (.agg #[(.int .u8 0), (.int .i64 0), (.int .i64 0), (.int .i64 0), (.bool false), (.bool false), (.int .i64 0), (.int .i64 0), (.int .i64 0), (.int .i64 0), (.int .i64 0)]) 80 rfl Tryd.underlying74 info68 rfl (by decide) (by omega) v243 y242 (⟨(wrap64 ((wrap64 (16 * x7_4)) + 14)) % 256, (⟨6, x7_4, 0, false, true⟩ : S59), 1, 1, 3, 0, 0⟩ : S68) [.int .u8 ((wrap64 ((wrap64 (16 * x7_4)) + 14)) % 256), .int .i64 6, .int .i64 x7_4, .int .i64 0, .bool false, .bool true, .int .i64 1, .int .i64 1, .int .i64 3, .int .i64 0, .int .i64 0] (fun _ => True) (fun _ => False) rfl rfl ?aP (fun _ hk => hk.elim) ?aF ?aO ?aB ?aS ?aL ?_; (case aP => exact k68_mkM _ _ _ (⟨(wrap64 ((wrap64 (16 * x7_4)) + 14)) % 256, (⟨6, x7_4, 0, false, true⟩ : S59), 1, 1, 3, 0, 0⟩ : S68)); (case aB => exact b_now); (case aF => exact (fun _ _ => trivial)); (case aO => exact (by (with_reducible repeat (first | apply Kd.R_alloc | apply Kd.R_drewN | apply Kd.R_drew)); exact HO244.out)); (case aS => exact (below_size b_now)); (case aL => have := LMc52.out; omega); intro v246 w56 ho hb hg hat; rw [← Ny245.out] at ho; have n0_ := Aside0.mk (hb); have n1_ := Aside0.mk (ho); clear HB; clear HO244; have HB := n0_; have HO247 := n1_; clear n0_ n1_; clear ho hb hg hat))
                   go_roundg k4
                   case measure => have := HK1.out; have := HK2.out; have := HK3.out; have := HK4.out; omega
                   case rel => exact ⟨(y245), (wrap64 (x7_4 + 1)), eq_now, H', ⟨by have := HK1.out; have := HK2.out; have := HK3.out; have := HK4.out; omega⟩, ⟨by (with_reducible repeat (first | apply Kd.R_alloc | apply Kd.R_drewN | apply Kd.R_drew)); exact HO247.out⟩, ⟨b_now⟩⟩
                  ·rw [if_neg c52] at H
                   exact absurd H (by simp)
                 ·rw [if_neg c51] at H
                  exact absurd H (by simp)
                ·rw [if_neg c50] at H
                 exact absurd H (by simp)
               ·rw [if_neg c49] at H
                exact absurd H (by simp)
            ·rw [if_neg c46] at H
             have c46b0 : decide (x7_4 ≤ 13) = false := decide_eq_false c46
             clear c46
             by_cases c57 : x1_4.length < 1759218604441
             ·rw [if_pos c57] at H
              have LMc57 := Aside0.mk c57
              clear c57
              obtain ⟨y248, hy248⟩ : ∃ y_ : List (S68), y_ = (x1_4 ++ [(⟨5, (⟨7, 0, 0, false, false⟩ : S59), 0, 0, 3, 0, 0⟩ : S68)]) := ⟨_, rfl⟩
              replace H : (if y248.length < 1759218604441 then ((some (y248 ++ [(⟨133, (⟨8, 0, 0, false, false⟩ : S59), 0, 0, 0, 3, 0⟩ : S68)] : List (S68))).bind fun y251 => (if y251.length < 1759218604441 then ((some (y251 ++ [(⟨149, (⟨9, 0, 0, false, false⟩ : S59), 0, 0, 0, 0, 0⟩ : S68)] : List (S68))).bind fun y254 => (if y254.length < 1759218604441 then ((some (y254 ++ [(⟨24, (⟨10, 0, 0, false, false⟩ : S59), 2, 4, 0, 3, 0⟩ : S68)] : List (S68))).bind fun y257 => (if y257.length < 1759218604441 then (some (y257 ++ [(⟨24, (⟨11, 0, 0, false, false⟩ : S59), 2, 4, 0, 3, 1⟩ : S68)])) else (none))) else (none))) else (none))) else (none)) = some r := by first | (rw [hy248]; with_reducible exact H) | (have H2_ := (Option.bind_some _ _).symm.trans H; rw [hy248]; with_reducible exact H2_) | (have H2_ := (Option.bind_some _ _).symm.trans H; with_reducible exact H2_) | with_reducible exact H | (rw [hy248]; exact H) | exact H
              have Ny248 := Aside0.mk hy248
              clear hy248
              by_cases c58 : y248.length < 1759218604441
              ·rw [if_pos c58] at H
               have LMc58 := Aside0.mk c58
               clear c58
               obtain ⟨y251, hy251⟩ : ∃ y_ : List (S68), y_ = (y248 ++ [(⟨133, (⟨8, 0, 0, false, false⟩ : S59), 0, 0, 0, 3, 0⟩ : S68)]) := ⟨_, rfl⟩
               replace H : (if y251.length < 1759218604441 then ((some (y251 ++ [(⟨149, (⟨9, 0, 0, false, false⟩ : S59), 0, 0, 0, 0, 0⟩ : S68)] : List (S68))).bind fun y254 => (if y254.length < 1759218604441 then ((some (y254 ++ [(⟨24, (⟨10, 0, 0, false, false⟩ : S59), 2, 4, 0, 3, 0⟩ : S68)] : List (S68))).bind fun y257 => (if y257.length < 1759218604441 then (some (y257 ++ [(⟨24, (⟨11, 0, 0, false, false⟩ : S59), 2, 4, 0, 3, 1⟩ : S68)])) else (none))) else (none))) else (none)) = some r := by first | (rw [hy251]; with_reducible exact H) | (have H2_ := (Option.bind_some _ _).symm.trans H; rw [hy251]; with_reducible exact H2_) | (have H2_ := (Option.bind_some _ _).symm.trans H; with_reducible exact H2_) | with_reducible exact H | (rw [hy251]; exact H) | exact H
               have Ny251 := Aside0.mk hy251
               clear hy251
               by_cases c59 : y251.length < 1759218604441
               ·rw [if_pos c59] at H
                have LMc59 := Aside0.mk c59
                clear c59
                obtain ⟨y254, hy254⟩ : ∃ y_ : List (S68), y_ = (y251 ++ [(⟨149, (⟨9, 0, 0, false, false⟩ : S59), 0, 0, 0, 0, 0⟩ : S68)]) := ⟨_, rfl⟩
                replace H : (if y254.length < 1759218604441 then ((some (y254 ++ [(⟨24, (⟨10, 0, 0, false, false⟩ : S59), 2, 4, 0, 3, 0⟩ : S68)] : List (S68))).bind fun y257 => (if y257.length < 1759218604441 then (some (y257 ++ [(⟨24, (⟨11, 0, 0, false, false⟩ : S59), 2, 4, 0, 3, 1⟩ : S68)])) else (none))) else (none)) = some r := by first | (rw [hy254]; with_reducible exact H) | (have H2_ := (Option.bind_some _ _).symm.trans H; rw [hy254]; with_reducible exact H2_) | (have H2_ := (Option.bind_some _ _).symm.trans H; with_reducible exact H2_) | with_reducible exact H | (rw [hy254]; exact H) | exact H
                have Ny254 := Aside0.mk hy254
                clear hy254
                by_cases c60 : y254.length < 1759218604441
                ·rw [if_pos c60] at H
                 have LMc60 := Aside0.mk c60
                 clear c60
                 obtain ⟨y257, hy257⟩ : ∃ y_ : List (S68), y_ = (y254 ++ [(⟨24, (⟨10, 0, 0, false, false⟩ : S59), 2, 4, 0, 3, 0⟩ : S68)]) := ⟨_, rfl⟩
                 replace H : (if y257.length < 1759218604441 then (some (y257 ++ [(⟨24, (⟨11, 0, 0, false, false⟩ : S59), 2, 4, 0, 3, 1⟩ : S68)])) else (none)) = some r := by first | (rw [hy257]; with_reducible exact H) | (have H2_ := (Option.bind_some _ _).symm.trans H; rw [hy257]; with_reducible exact H2_) | (have H2_ := (Option.bind_some _ _).symm.trans H; with_reducible exact H2_) | with_reducible exact H | (rw [hy257]; exact H) | exact H
                 have Ny257 := Aside0.mk hy257
                 clear hy257
                 by_cases c61 : y257.length < 1759218604441
                 ·rw [if_pos c61] at H
                  have LMc61 := Aside0.mk c61
                  clear c61
                  obtain ⟨y260, hy260⟩ : ∃ y_ : List (S68), y_ = (y257 ++ [(⟨24, (⟨11, 0, 0, false, false⟩ : S59), 2, 4, 0, 3, 1⟩ : S68)]) := ⟨_, rfl⟩
                  replace H : (some y260) = some r := by first | (rw [hy260]; with_reducible exact H) | (have H2_ := (Option.bind_some _ _).symm.trans H; rw [hy260]; with_reducible exact H2_) | (have H2_ := (Option.bind_some _ _).symm.trans H; with_reducible exact H2_) | with_reducible exact H | (rw [hy260]; exact H) | exact H
                  have Ny260 := Aside0.mk hy260
                  clear hy260
                  obtain rfl := Option.some.inj H
                  go_wp2_with (first | ((with_reducible refine gate_builtin (b := .append) (xs := #[.tmp 161, .tmp 164]) rfl ?_); at_builtin; refine Kd.R_append k68 (w0 := w) w.heap.size rfl (.tmp 161) (.tmp 164) 74 68 (.agg #[(.int .u8 0), (.int .i64 0), (.int .i64 0), (.int .i64 0), (.bool false), (.bool false), (.int .i64 0), (.int .i64 0), (.int .i64 0), (.int .i64 0), (.int .i64 0)]) 80 rfl Tryd.underlying74 info68 rfl (by decide) (by omega) u1 x1_4 (⟨5, (⟨7, 0, 0, false, false⟩ : S59), 0, 0, 3, 0, 0⟩ : S68) [.int .u8 5, .int .i64 7, .int .i64 0, .int .i64 0, .bool false, .bool false, .int .i64 0, .int .i64 0, .int .i64 3, .int .i64 0, .int .i64 0] (fun _ => True) (fun _ => False) rfl rfl ?aP (fun _ hk => hk.elim) ?aF ?aO ?aB ?aS ?aL ?_; (case aP => exact k68_mkM _ _ _ (⟨5, (⟨7, 0, 0, false, false⟩ : S59), 0, 0, 3, 0, 0⟩ : S68)); (case aB => exact b_now); (case aF => exact (fun _ _ => trivial)); (case aO => exact (by (with_reducible repeat (first | apply Kd.R_alloc | apply Kd.R_drewN | apply Kd.R_drew)); exact HO_1.out)); (case aS => exact (below_size b_now)); (case aL => have := LMc57.out; omega); intro v249 w62 ho hb hg hat; rw [← Ny248.out] at ho; have n0_ := Aside0.mk (hb); have n1_ := Aside0.mk (ho); clear HB; clear HO_1; have HB := n0_; have HO250 := n1_; clear n0_ n1_; clear ho hb hg hat) | ((with_reducible refine gate_builtin (b := .append) (xs := #[.tmp 166, .tmp 169]) rfl ?_); at_builtin; refine Kd.R_append k68 (w0 := w) w.heap.size rfl (.tmp 166) (.tmp 169) 74 68 (.agg #[(.int .u8 0), (.int .i64 0), (.int .i64 0), (.int .i64 0), (.bool false), (.bool false), (.int .i64 0), (.int .i64 0), (.int .i64 0), (.int .i64 0), (.int .i64 0)]) 80 rfl Tryd.underlying74 info68 rfl (by decide) (by omega) v249 y248 (⟨133, (⟨8, 0, 0, false, false⟩ : S59), 0, 0, 0, 3, 0⟩ : S68) [.int .u8 133, .int .i64 8, .int .i64 0, .int .i64 0, .bool false, .bool false, .int .i64 0, .int .i64 0, .int .i64 0, .int .i64 3, .int .i64 0] (fun _ => True) (fun _ => False) rfl rfl ?aP (fun _ hk => hk.elim) ?aF ?aO ?aB ?aS ?aL ?_; (case aP => exact k68_mkM _ _ _ (⟨133, (⟨8, 0, 0, false, false⟩ : S59), 0, 0, 0, 3, 0⟩ : S68)); (case aB => exact b_now); (case aF => exact (fun _ _ => trivial)); (case aO => exact (by (with_reducible repeat (first | apply Kd.R_alloc | apply Kd.R_drewN | apply Kd.R_drew)); exact HO250.out)); (case aS => exact (below_size b_now)); (case aL => have := LMc58.out; omega); intro v252 w63 ho hb hg hat; rw [← Ny251.out] at ho; have n0_ := Aside0.mk (hb); have n1_ := Aside0.mk (ho); clear HB; clear HO250; have HB := n0_; have HO253 := n1_; clear n0_ n1_; clear ho hb hg hat) | ((with_reducible refine gate_builtin (b := .append) (xs := #[.tmp 171, .tmp 174]) rfl ?_); at_builtin; refine Kd.R_append k68 (w0 := w) w.heap.size rfl (.tmp 171) (.tmp 174) 74 68 (.agg #[(.int .u8 0), (.int .i64 0), (.int .i64 0), (.int .i64 0), (.bool false), (.bool false), (.int .i64 0), (.int .i64 0), (.int .i64 0), (.int .i64 0), (.int .i64 0)]) 80 rfl Tryd.underlying74 info68 rfl (by decide) (by omega) v252 y251 (⟨149, (⟨9, 0, 0, false, false⟩ : S59), 0, 0, 0, 0, 0⟩ : S68) [.int .u8 149, .int .i64 9, .int .i64 0, .int .i64 0, .bool false, .bool false, .int .i64 0, .int .i64 0, .int .i64 0, .int .i64 0, .int .i64 0] (fun _ => True) (fun _ => False) rfl rfl ?aP (fun _ hk => hk.elim) ?aF ?aO ?aB ?aS ?aL ?_; (case aP => exact k68_mkM _ _ _ (⟨149, (⟨9, 0, 0, false, false⟩ : S59), 0, 0, 0, 0, 0⟩ : S68)); (case aB => exact b_now); (case aF => exact (fun _ _ => trivial)); (case aO => exact (by (with_reducible repeat (first | apply Kd.R_alloc | apply Kd.R_drewN | apply Kd.R_drew)); exact HO253.out)); (case aS => exact (below_size b_now)); (case aL => have := LMc59.out; omega); intro v255 w64 ho hb hg hat; rw [← Ny254.out] at ho; have n0_ := Aside0.mk (hb); have n1_ := Aside0.mk (ho); clear HB; clear HO253; have HB := n0_; have HO256 := n1_; clear n0_ n1_; clear ho hb hg hat) | ((with_reducible refine gate_builtin (b := .append) (xs := #[.tmp 176, .tmp 179]) rfl ?_); at_builtin; refine Kd.R_append k68 (w0 := w) w.heap.size rfl (.tmp 176) (.tmp 179) 74 68 (.agg #[(.int .u8 0), (.int .i64 0), (.int .i64 0), (.int .i64 0), (.bool false), (.bool false), (.int .i64 0), (.int .i64 0), (.int .i64 0), (.int .i64 0), (.int .i64 0)]) 80 rfl Tryd.underlying74 info68 rfl (by decide) (by omega) v255 y254 (⟨24, (⟨10, 0, 0, false, false⟩ : S59), 2, 4, 0, 3, 0⟩ : S68) [.int .u8 24, .int .i64 10, .int .i64 0, .int .i64 0, .bool false, .bool false, .int .i64 2, .int .i64 4, .int .i64 0, .int .i64 3, .int .i64 0] (fun _ => True) (fun _ => False) rfl rfl ?aP (fun _ hk => hk.elim) ?aF ?aO ?aB ?aS ?aL ?_; (case aP => exact k68_mkM _ _ _ (⟨24, (⟨10, 0, 0, false, false⟩ : S59), 2, 4, 0, 3, 0⟩ : S68)); (case aB => exact b_now); (case aF => exact (fun _ _ => trivial)); (case aO => exact (by (with_reducible repeat (first | apply Kd.R_alloc | apply Kd.R_drewN | apply Kd.R_drew)); exact HO256.out)); (case aS => exact (below_size b_now)); (case aL => have := LMc60.out; omega); intro v258 w65 ho hb hg hat; rw [← Ny257.out] at ho; have n0_ := Aside0.mk (hb); have n1_ := Aside0.mk (ho); clear HB; clear HO256; have HB := n0_; have HO259 := n1_; clear n0_ n1_; clear ho hb hg hat) | ((with_reducible refine gate_builtin (b := .append) (xs := #[.tmp 181, .tmp 184]) rfl ?_); at_builtin; refine Kd.R_append k68 (w0 := w) w.heap.size rfl (.tmp 181) (.tmp 184) 74 68 (.agg #[(.int .u8 0), (.int .i64 0), (.int .i64 0), (.int .i64 0), (.bool false), (.bool false), (.int .i64 0), (.int .i64 0), (.int .i64 0), (.int .i64 0), (.int .i64 0)]) 80 rfl Tryd.underlying74 info68 rfl (by decide) (by omega) v258 y257 (⟨24, (⟨11, 0, 0, false, false⟩ : S59), 2, 4, 0, 3, 1⟩ : S68) [.int .u8 24, .int .i64 11, .int .i64 0, .int .i64 0, .bool false, .bool false, .int .i64 2, .int .i64 4, .int .i64 0, .int .i64 3, .int .i64 1] (fun _ => True) (fun _ => False) rfl rfl ?aP (fun _ hk => hk.elim) ?aF ?aO ?aB ?aS ?aL ?_; (case aP => exact k68_mkM _ _ _ (⟨24, (⟨11, 0, 0, false, false⟩ : S59), 2, 4, 0, 3, 1⟩ : S68)); (case aB => exact b_now); (case aF => exact (fun _ _ => trivial)); (case aO => exact (by (with_reducible repeat (first | apply Kd.R_alloc | apply Kd.R_drewN | apply Kd.R_drew)); exact HO259.out)); (case aS => exact (below_size b_now)); (case aL => have := LMc61.out; omega); intro v261 w66 ho hb hg hat; rw [← Ny260.out] at ho; have n0_ := Aside0.mk (hb); have n1_ := Aside0.mk (ho); clear HB; clear HO259; have HB := n0_; have HO262 := n1_; clear n0_ n1_; clear ho hb hg hat))
                  go_ret
                  exact ⟨_, ret_now, by (with_reducible repeat (first | apply Kd.R_alloc | apply Kd.R_drewN | apply Kd.R_drew)); exact HO262.out, b_now⟩
                 ·rw [if_neg c61] at H
                  exact absurd H (by simp)
                ·rw [if_neg c60] at H
                 exact absurd H (by simp)
               ·rw [if_neg c59] at H
                exact absurd H (by simp)
              ·rw [if_neg c58] at H
               exact absurd H (by simp)
             ·rw [if_neg c57] at H
              exact absurd H (by simp)

end Go.Proofs.YtdhiibkcoolbeaaDoor.P
