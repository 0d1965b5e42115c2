/- Made by this session's driver over the kit's printer: for each Go function a Lean function with the same answers, and a proof that the Go call comes to these answers; no conditions but the ones each theorem names. -/
import Derived.Test.YtkjcjlegokdpdaaDoorPx0
import Derived.Test.YtkjcjlegokdpdaaDoorPx7
import Derived.Test.YtkjcjlegokdpdaaDoorPxXXOr
import Derived.Test.YtkjcjlegokdpdaaDoorPxXXNx
import Derived.Test.YtkjcjlegokdpdaaDoorPxXXRe
namespace Go.Proofs.YtkjcjlegokdpdaaDoor.P
open Go.RowKit Go.Proofs.YtkjcjlegokdpdaaDoorW.PrintWords Go.Proofs.YtkjcjlegokdpdaaDoorW.PrintLast Go.Proofs.YtkjcjlegokdpdaaDoorW.PrintMore
attribute [local go_sem] max2_int min2_int max_two min_two max_three min_three max_four min_four   -- for this text's walks alone
set_option linter.unusedVariables false
set_option linter.unusedSimpArgs false

/-! ### graph_Longest: function 17 -/
mutual
def graph_Longest.l0 : Nat → List (S44) → List Int → List Bool → List Int → Int → Int → Int → Option (Int × Int)
 | 0, _, _, _, _, _, _, _ => none
 | k + 1, x0, x4, x6, x7, x8, x27, x28 => if x28 < x27 then (if 0 ≤ x28 then (if x28 < (x4.length : Int) then (if 0 ≤ (rd x4 x28) then (if (rd x4 x28) < (x7.length : Int) then ((some (x7.set ((rd x4 x28) : Int).toNat (wrap64 ((rd x7 (rd x4 x28)) + 1)) : List Int)).bind fun y187 => ((graph_next.f x0 x6 (rd x4 x28)).bind fun t189 => (graph_Longest.l1 k x0 x4 x6 y187 (mx x8 (rd y187 (rd x4 x28))) (rd x4 x28) t189 x27 x28 (t189.length : Int) 0))) else (none)) else (none)) else (none)) else (none)) else (some (x8, 0))
def graph_Longest.l1 : Nat → List (S44) → List Int → List Bool → List Int → Int → Int → List Int → Int → Int → Int → Int → Option (Int × Int)
 | 0, _, _, _, _, _, _, _, _, _, _, _ => none
 | k + 1, x0, x4, x6, x7, x8, x10, x11, x27, x28, x52, x53 => if x53 < x52 then (if 0 ≤ x53 then (if x53 < (x11.length : Int) then (if 0 ≤ (rd x11 x53) then (if (rd x11 x53) < (x7.length : Int) then (if 0 ≤ x10 then (if x10 < (x7.length : Int) then (graph_Longest.l1 k x0 x4 x6 (x7.set ((rd x11 x53) : Int).toNat (mx (rd x7 (rd x11 x53)) (rd x7 x10))) x8 x10 x11 x27 x28 x52 (wrap64 (x53 + 1))) else (none)) else (none)) else (none)) else (none)) else (none)) else (none)) else (graph_Longest.l0 k x0 x4 x6 x7 x8 x27 (wrap64 (x28 + 1)))
end
def graph_Longest.f (k : Nat) (l0 : List (S44)) : Option (Int × Int) := (graph_Order.f l0).bind fun bt175 => (if bt175.2 = 0 then ((graph_starts.f k l0).bind fun t179 => (if 0 ≤ (l0.length : Int) then (if ((l0.length : Int) : Int).toNat ≤ 35184372088832 then (graph_Longest.l0 k l0 bt175.1 t179 (List.replicate ((l0.length : Int) : Int).toNat 0) 0 (bt175.1.length : Int) 0) else (none)) else (none))) else (some (0, bt175.2)))
theorem graph_Longest.mono_l : ∀ k, (∀ y0 y1 y2 y3 y4 y5 y6, LeO (graph_Longest.l0 k y0 y1 y2 y3 y4 y5 y6) (graph_Longest.l0 (k + 1) y0 y1 y2 y3 y4 y5 y6)) ∧ (∀ y0 y1 y2 y3 y4 y5 y6 y7 y8 y9 y10, LeO (graph_Longest.l1 k y0 y1 y2 y3 y4 y5 y6 y7 y8 y9 y10) (graph_Longest.l1 (k + 1) y0 y1 y2 y3 y4 y5 y6 y7 y8 y9 y10))
 | 0 => ⟨fun _ _ _ _ _ _ _ r h => by simp [graph_Longest.l0] at h, fun _ _ _ _ _ _ _ _ _ _ _ r h => by simp [graph_Longest.l1] at h⟩
 | k + 1 => by
  obtain ⟨ih0, ih1⟩ := graph_Longest.mono_l k
  refine ⟨?_, ?_⟩
  ·intro y0 y1 y2 y3 y4 y5 y6
   unfold graph_Longest.l0
   repeat' first
   | (with_reducible exact ih0 _ _ _ _ _ _ _)
   | (with_reducible exact ih1 _ _ _ _ _ _ _ _ _ _ _)
   | (with_reducible exact graph_starts.mono _ _)
   | (with_reducible exact LeO.refl _)
   | (with_reducible exact LeO.none _)
   | (with_reducible refine LeO.ite ?_ ?_)
   | (with_reducible refine LeO.bind ?_ (fun _ => ?_))
   | exact ih0 _ _ _ _ _ _ _
   | exact ih1 _ _ _ _ _ _ _ _ _ _ _
   | exact graph_starts.mono _ _
   | exact LeO.none _
   | refine LeO.ite ?_ ?_
   | refine LeO.bind ?_ (fun _ => ?_)
  ·intro y0 y1 y2 y3 y4 y5 y6 y7 y8 y9 y10
   unfold graph_Longest.l1
   repeat' first
   | (with_reducible exact ih0 _ _ _ _ _ _ _)
   | (with_reducible exact ih1 _ _ _ _ _ _ _ _ _ _ _)
   | (with_reducible exact graph_starts.mono _ _)
   | (with_reducible exact LeO.refl _)
   | (with_reducible exact LeO.none _)
   | (with_reducible refine LeO.ite ?_ ?_)
   | (with_reducible refine LeO.bind ?_ (fun _ => ?_))
   | exact ih0 _ _ _ _ _ _ _
   | exact ih1 _ _ _ _ _ _ _ _ _ _ _
   | exact graph_starts.mono _ _
   | exact LeO.none _
   | refine LeO.ite ?_ ?_
   | refine LeO.bind ?_ (fun _ => ?_)
theorem graph_Longest.mono : ∀ a0 k, LeO (graph_Longest.f k a0) (graph_Longest.f (k + 1) a0) := by
 intro a0 k
 obtain ⟨ih0, ih1⟩ := graph_Longest.mono_l k
 unfold graph_Longest.f
 repeat' first
   | (with_reducible exact ih0 _ _ _ _ _ _ _)
   | (with_reducible exact ih1 _ _ _ _ _ _ _ _ _ _ _)
   | (with_reducible exact graph_starts.mono _ _)
   | (with_reducible exact LeO.refl _)
   | (with_reducible exact LeO.none _)
   | (with_reducible refine LeO.ite ?_ ?_)
   | (with_reducible refine LeO.bind ?_ (fun _ => ?_))
   | exact ih0 _ _ _ _ _ _ _
   | exact ih1 _ _ _ _ _ _ _ _ _ _ _
   | exact graph_starts.mono _ _
   | exact LeO.none _
   | refine LeO.ite ?_ ?_
   | refine LeO.bind ?_ (fun _ => ?_)
def graph_Longest.T17 : Bool × List (List Nat × List Nat) := (true, [([], []), ([], []), ([], []), ([1, 2], [1, 2]), ([3], [3]), ([], []), ([], []), ([], []), ([6, 7], [6, 7]), ([8], [8]), ([5, 9], [5, 9]), ([10], [10]), ([], []), ([], []), ([12, 13], [12, 13]), ([14], [14]), ([11, 15], [11, 15]), ([0, 4, 0, 1, 2, 3, 4, 5, 6, 7, 8, 9, 10, 11, 12, 13, 14, 15, 16], [0, 4]), ([17, 16, 0, 1, 2, 3, 4, 5, 6, 7, 8, 9, 10, 11, 12, 13, 14, 15, 16], [16, 17])])
def graph_Longest.B17 : List Nat := [0, 0, 0, 6, 14, 0, 0, 0, 192, 448, 992, 2016, 0, 0, 12288, 28672, 65504, 131071, 262143]
theorem graph_Longest.tab17 : rtab .any (opsOf Tryd.f17 17) = graph_Longest.T17 := by kernel_rfl
theorem graph_Longest.bits17 : waitsOk graph_Longest.T17.2 graph_Longest.B17 = true := by kernel_rfl
set_option maxHeartbeats 8000000 in
set_option maxRecDepth 100000 in
theorem graph_Longest.calls (k : Nat) (A0 : Option Addr) (c0 : Nat) (l0 : List (S44)) (r1 : Int) (r2 : Int) (w : World) (hr0 : Kd.C k44 w A0 l0.length l0) (hc0 : l0.length ≤ c0) (hrG0 : Kd.C (Kd.int .i64) w (some ⟨0, 0, none⟩) gl0.length gl0) (h : graph_Longest.f k l0 = some (r1, r2)) :
  Calls Tryd.prog 17 #[.slice A0 l0.length c0] w fun e w' => e = .returned (.tuple #[.int .i64 r1, .int .i64 r2]) ∧ Below w.heap.size w w' := by
 have HR0 := Aside0.mk hr0
 have HC0 := Aside0.mk hc0
 clear hr0 hc0
 have HRG0 := Aside0.mk hrG0
 clear hrG0
 have HB := Aside0.mk (Below.refl w.heap.size w)
 have H : ((graph_Order.f l0).bind fun bt175 => (if bt175.2 = 0 then ((graph_starts.f k l0).bind fun t179 => (if 0 ≤ (l0.length : Int) then (if ((l0.length : Int) : Int).toNat ≤ 35184372088832 then (graph_Longest.l0 k l0 bt175.1 t179 (List.replicate ((l0.length : Int) : Int).toNat 0) 0 (bt175.1.length : Int) 0) else (none)) else (none))) else (some (0, bt175.2)))) = some (r1, r2) := h
 clear h
 replace H := Option.bind_eq_some_iff.mp H; obtain ⟨⟨t175, t176⟩, A20, H⟩ := H; try dsimp only at H
 have A2 := Aside0.mk A20
 clear A20
 by_cases c3 : t176 = 0
 ·rw [if_pos c3] at H
  have c3b0 : (t176 == 0) = true := beq_iff_eq.mpr c3
  have c3b1 : (t176 != 0) = false := bne_eq_false_iff_eq.mpr c3
  clear c3
  replace H := Option.bind_eq_some_iff.mp H; obtain ⟨t179, A40, H⟩ := H; try dsimp only at H
  have A4 := Aside0.mk A40
  clear A40
  by_cases c5 : 0 ≤ (l0.length : Int)
  ·rw [if_pos c5] at H
   have c5b0 := eq_true c5
   have c5b1 : decide (0 ≤ (l0.length : Int)) = true := decide_eq_true c5
   clear c5
   by_cases c6 : ((l0.length : Int) : Int).toNat ≤ 35184372088832
   ·rw [if_pos c6] at H
    have c6b0 := eq_true c6
    have c6b1 : decide (((l0.length : Int) : Int).toNat ≤ 35184372088832) = true := decide_eq_true c6
    clear c6
    obtain ⟨y182, hy182⟩ : ∃ y_ : List Int, y_ = (List.replicate ((l0.length : Int) : Int).toNat 0) := ⟨_, rfl⟩
    replace H : (graph_Longest.l0 k l0 t175 t179 y182 0 (t175.length : Int) 0) = some (r1, r2) := by first | (rw [hy182]; with_reducible exact H) | (have H2_ := (Option.bind_some _ _).symm.trans H; rw [hy182]; with_reducible exact H2_) | (have H2_ := (Option.bind_some _ _).symm.trans H; with_reducible exact H2_) | with_reducible exact H | (rw [hy182]; exact H) | exact H
    have Ny182 := Aside0.mk hy182
    clear hy182
    have H' := Aside0.mk H
    clear H
    go_enter Tryd.func17, Tryd.ntmps17
    go_wp2_with (first | ((with_reducible refine gate_callee (f := 16) rfl ?_); refine sh_call (some 15) Tryd.func16 #[.slice A0 l0.length c0] ?_; (with_reducible refine (graph_Order.calls _ _ l0 t175 t176 _ ?side1 ?side2 ?side3 A2.out).mono ?_); (case side1 => repeat (first | exact HR0.out | (with_reducible refine Kd.C_alloc ?_ _) | (with_reducible refine Kd.C_drewN ?_ _) | (with_reducible refine Kd.C_drew ?_))); (case side2 => exact HC0.out); (case side3 => repeat (first | exact HRG0.out | (with_reducible refine Kd.C_alloc ?_ _) | (with_reducible refine Kd.C_drewN ?_ _) | (with_reducible refine Kd.C_drew ?_))); rintro e w7 ⟨v177, rfl, ho0, hb⟩; refine ⟨_, rfl, ?_⟩; have HO178 := Aside0.mk (Kd.R_lower ho0 (below_size b_now)); replace HB := sh_b (w := w) hb; (try clear hb); (try clear hb2); (try clear hk); (try clear hi); (try clear ho0)) | ((with_reducible refine gate_callee (f := 28) rfl ?_); refine sh_call (some 22) Tryd.func28 #[.slice A0 l0.length c0] ?_; (with_reducible refine (graph_starts.calls k _ _ l0 t179 _ ?side1 ?side2 ?side3 A4.out).mono ?_); (case side1 => repeat (first | exact (Kd.C_below HR0.out HB.out) | (with_reducible refine Kd.C_alloc ?_ _) | (with_reducible refine Kd.C_drewN ?_ _) | (with_reducible refine Kd.C_drew ?_))); (case side2 => exact HC0.out); (case side3 => repeat (first | exact (Kd.C_below HRG0.out HB.out) | (with_reducible refine Kd.C_alloc ?_ _) | (with_reducible refine Kd.C_drewN ?_ _) | (with_reducible refine Kd.C_drew ?_))); rintro e w8 ⟨v180, rfl, ho0, hb⟩; refine ⟨_, rfl, ?_⟩; have HO181 := Aside0.mk (Kd.R_lower ho0 (below_size b_now)); replace HO178 := Aside0.mk (Kd.R_below (by (with_reducible repeat (first | apply Kd.R_alloc | apply Kd.R_drewN | apply Kd.R_drew)); exact HO178.out) hb); replace HB := sh_b (w := w) hb; (try clear hb); (try clear hb2); (try clear hk); (try clear hi); (try clear ho0)) | ((with_reducible refine gate_dst (N := 25) rfl ?_); refine Kd.R_make (Kd.int .i64) _ 3 rfl (N := 25) rfl 25 _ _ rfl (l0.length : Int) rfl rfl Tryd.underlying25 (.int .i64 0) 8 info3 rfl (by decide) (by omega) 0 (ok := fun _ => True) (okp := fun _ => True) rfl (fun _ hk => hk) trivial (of_decide_eq_true (by first | (with_reducible assumption) | assumption)) (Nat.le_trans (Nat.mul_le_mul_right _ (of_decide_eq_true (by first | (with_reducible assumption) | assumption) : (l0.length : Int).toNat ≤ 35184372088832)) (by omega)) (Below.refl _ _) (Nat.le_refl _) ?_; intro v183 w9 ho10 hb hg_ hnew_; clear hg_ hnew_; (first | rw [← Ny182.out] at ho10 | (simp only [Int.reduceToNat] at ho10; rw [← Ny182.out] at ho10)); have HO184 := Aside0.mk (Kd.R_lower (Kd.R_new' ho10 (Kd.R_lt (by (with_reducible repeat (first | apply Kd.R_alloc | apply Kd.R_drewN | apply Kd.R_drew)); exact HO178.out))) (below_size b_now)); replace HO178 := Aside0.mk (Kd.R_elder' (by (with_reducible repeat (first | apply Kd.R_alloc | apply Kd.R_drewN | apply Kd.R_drew)); exact HO178.out) (Kd.R_base ho10) hb); replace HO181 := Aside0.mk (Kd.R_below (by (with_reducible repeat (first | apply Kd.R_alloc | apply Kd.R_drewN | apply Kd.R_drew)); exact HO181.out) hb); replace HB := sh_b (w := w) hb; clear hb ho10; obtain ⟨Ao11, co11, eo11⟩ := Kd.R_slice HO178.out; subst eo11))
    go_loopg [8, 28] k (fun kq v8 v28 w' => ∃ (x7_1 : List Int) (x8_1 : Int) (x28_1 : Int), v8 = .int .i64 x8_1 ∧ v28 = .int .i64 x28_1 ∧ Aside0 (graph_Longest.l0 kq l0 t175 t179 x7_1 x8_1 (t175.length : Int) x28_1 = some (r1, r2)) ∧ Aside0 (kq ≤ k) ∧ Aside0 (Kd.R (Kd.int .i64) 3 w' w.heap.size (fun k_ => some k_ ≠ (v183 : Value).ownBlock) (.slice Ao11 t175.length co11) t175) ∧ Aside0 (Kd.R Kd.bool 4 w' w.heap.size (fun _ => True) v180 t179) ∧ Aside0 (Kd.R (Kd.int .i64) 3 w' w.heap.size (fun k_ => some k_ ≠ ((.slice Ao11 t175.length co11) : Value).ownBlock) v183 x7_1) ∧ Aside0 (Below w.heap.size w w'))
    case atStart => exact ⟨(y182), (0), (0), eq_now, eq_now, H', ⟨Nat.le_refl _⟩, ⟨by (with_reducible repeat (first | apply Kd.R_alloc | apply Kd.R_drewN | apply Kd.R_drew)); exact Kd.R_mono HO178.out (fun _ hk => hk.2)⟩, ⟨by (with_reducible repeat (first | apply Kd.R_alloc | apply Kd.R_drewN | apply Kd.R_drew)); exact HO181.out⟩, ⟨by (with_reducible repeat (first | apply Kd.R_alloc | apply Kd.R_drewN | apply Kd.R_drew)); exact Kd.R_mono HO184.out (fun _ hk => hk.2)⟩, ⟨b_now⟩⟩
    case round =>
     clear H'
     try clear c1
     try clear c2
     try clear p2
     try clear c3
     try clear c3b0
     try clear c3b1
     try clear c5
     try clear c5b0
     try clear c5b1
     try clear c6
     try clear c6b0
     try clear c6b1
     obtain ⟨x7_1, x8_1, x28_1, rfl, rfl, HA, HK1, HO_4, HO_6, HO_7, HB⟩ := hrel
     cases gk with
     | zero => exact absurd HA.out (by simp [graph_Longest.l0])
     | succ k1 =>
      have H := HA.out
      clear HA
      simp only [graph_Longest.l0] at H
      by_cases c12 : x28_1 < (t175.length : Int)
      ·rw [if_pos c12] at H
       have c12b0 : decide (x28_1 < (t175.length : Int)) = true := decide_eq_true c12
       clear c12
       by_cases c13 : 0 ≤ x28_1
       ·rw [if_pos c13] at H
        have c13b0 : decide (0 ≤ x28_1) = true := decide_eq_true c13
        clear c13
        by_cases c14 : x28_1 < (t175.length : Int)
        ·rw [if_pos c14] at H
         have c14b0 : decide (x28_1 < (t175.length : Int)) = true := decide_eq_true c14
         clear c14
         by_cases c15 : 0 ≤ (rd t175 x28_1)
         ·rw [if_pos c15] at H
          have c15b0 : decide (0 ≤ (rd t175 x28_1)) = true := decide_eq_true c15
          clear c15
          by_cases c16 : (rd t175 x28_1) < (x7_1.length : Int)
          ·rw [if_pos c16] at H
           have c16b0 : decide ((rd t175 x28_1) < (x7_1.length : Int)) = true := decide_eq_true c16
           clear c16
           obtain ⟨y187, hy187⟩ : ∃ y_ : List Int, y_ = (x7_1.set ((rd t175 x28_1) : Int).toNat (wrap64 ((rd x7_1 (rd t175 x28_1)) + 1))) := ⟨_, rfl⟩
           replace H : ((graph_next.f l0 t179 (rd t175 x28_1)).bind fun t189 => (graph_Longest.l1 k1 l0 t175 t179 y187 (mx x8_1 (rd y187 (rd t175 x28_1))) (rd t175 x28_1) t189 (t175.length : Int) x28_1 (t189.length : Int) 0)) = some (r1, r2) := by first | (rw [hy187]; with_reducible exact H) | (have H2_ := (Option.bind_some _ _).symm.trans H; rw [hy187]; with_reducible exact H2_) | (have H2_ := (Option.bind_some _ _).symm.trans H; with_reducible exact H2_) | with_reducible exact H | (rw [hy187]; exact H) | exact H
           have Ny187 := Aside0.mk hy187
           clear hy187
           obtain ⟨ji18, hji18⟩ : ∃ j_ : Int, (mx x8_1 (rd y187 (rd t175 x28_1))) = j_ := ⟨_, rfl⟩
           replace H : ((graph_next.f l0 t179 (rd t175 x28_1)).bind fun t189 => (graph_Longest.l1 k1 l0 t175 t179 y187 ji18 (rd t175 x28_1) t189 (t175.length : Int) x28_1 (t189.length : Int) 0)) = some (r1, r2) := by first | (rw [hji18] at H; exact H) | (simp only [hji18] at H ⊢; exact H)
           have hji18_ : (if x8_1 < (rd y187 (rd t175 x28_1)) then (rd y187 (rd t175 x28_1)) else x8_1) = ji18 := hji18
           replace H := Option.bind_eq_some_iff.mp H; obtain ⟨t189, A190, H⟩ := H; try dsimp only at H
           have A19 := Aside0.mk A190
           clear A190
           have H' := Aside0.mk H
           clear H
           have p185 : 0 ≤ (x28_1 : Int) := of_decide_eq_true (by first | (with_reducible assumption) | assumption)
           have q185 : x28_1 < (t175.length : Int) := of_decide_eq_true (by first | (with_reducible assumption) | assumption)
           obtain ⟨ad185, e185, hx185_0⟩ := Kd.at_int (Kd.R_reads' HO_4.out).2.2 x28_1 p185 q185
           cases e185
           replace p185 := eq_true p185
           replace q185 := eq_true q185
           obtain ⟨Ao20, co20, eo20⟩ := Kd.R_slice HO_7.out
           subst eo20
           have p186 : 0 ≤ ((rd t175 x28_1) : Int) := of_decide_eq_true (by first | (with_reducible assumption) | assumption)
           have q186 : (rd t175 x28_1) < (x7_1.length : Int) := of_decide_eq_true (by first | (with_reducible assumption) | assumption)
           obtain ⟨ad186, e186, hx186_0⟩ := Kd.at_int (Kd.R_reads' HO_7.out).2.2 (rd t175 x28_1) p186 q186
           cases e186
           replace p186 := eq_true p186
           replace q186 := eq_true q186
           have p17 : 0 ≤ ((rd t175 x28_1) : Int) := of_decide_eq_true (by first | (with_reducible assumption) | assumption)
           have q17 : ((rd t175 x28_1) : Int) < ((x7_1.length : Int) : Int) := of_decide_eq_true (by first | (with_reducible assumption) | assumption)
           obtain ⟨go17, co17, eo17, gb17, gl17, cl17, HG17⟩ := Kd.R_form HO_7.out (by omega)
           (first | cases eo17 | (injection eo17 with ea_ en_ ec_; (first | subst ea_ | (injection ea_ with ea_; subst ea_)); subst ec_; clear en_))
           have GB17 := Aside0.mk gb17
           have GG17 := Aside0.mk HG17
           clear gb17 gl17 HG17
           (first | simp only [add_plain] at hx186_0 | skip)
           obtain ⟨hx17_0, hf17_0⟩ := Kd.R_celln 0 HO_7.out ((rd t175 x28_1) : Int) p17 q17
           replace p17 := eq_true p17
           replace q17 := eq_true q17
           have HP21 := Kd.R_putg HO_7.out ((rd t175 x28_1) : Int) (wrap64 ((rd x7_1 (rd t175 x28_1)) + 1))
           go_wp2_with (first | ((with_reducible refine gate_store (t := 3) (p := 40) rfl ?_); refine store_event (t := 3) (p := 40) (v := ?vo_w22) (w1 := (wr.setCell ⟨go17, ((rd t175 x28_1) : Int).toNat, none⟩ (.int .i64 (wrap64 ((rd x7_1 (rd t175 x28_1)) + 1))))) ?hg ?ho ?hn ?hr ?_; (case ho => rfl); (case hg => rfl); (case hn => rfl); (case hr => first | (go_simp; done) | (go_simp; rfl)); intro w22 hw; have hg : wr.grownBy w22 (some go17) := (by rw [hw]; exact HP21.2); have hp_ : Kd.R (Kd.int .i64) 3 w22 w.heap.size (fun k_ => some k_ ≠ (.slice (some ad185) t175.length co11 : Value).ownBlock) (.slice (some ⟨go17, 0, none⟩) x7_1.length co20) y187 := (by rw [hw, Ny187.out]; exact HP21.1); clear HP21; replace HO_4 := Aside0.mk (Kd.R_after (v := (.slice (some ⟨go17, 0, none⟩) x7_1.length co20)) (v1 := (.slice (some ⟨go17, 0, none⟩) x7_1.length co20)) (ok := (fun _ => True)) (by (with_reducible repeat (first | apply Kd.R_alloc | apply Kd.R_drewN | apply Kd.R_drew)); exact Kd.R_mono HO_4.out (fun _ hk => ⟨trivial, hk⟩)) hg (.inl rfl)); replace HO_6 := Aside0.mk (Kd.R_over' (v := (.slice (some ⟨go17, 0, none⟩) x7_1.length co20)) (by (with_reducible repeat (first | apply Kd.R_alloc | apply Kd.R_drewN | apply Kd.R_drew)); exact HO_6.out) (Kd.R_typed HO_7.out) (by decide) hg); replace HO_7 := Aside0.mk (hp_); replace HB := Aside0.mk ((by rw [hw]; exact below_set (HB.out) GB17.out : Below w.heap.size w w22)); clear hg hw hp_; have p188 : 0 ≤ ((rd t175 x28_1) : Int) := of_decide_eq_true (by first | (with_reducible assumption) | assumption); have q188 : (rd t175 x28_1) < (y187.length : Int) := (by have h_ : ((rd t175 x28_1) : Int) < ((x7_1.length : Int) : Int) := of_decide_eq_true (by first | (with_reducible assumption) | assumption); first | (have e_ := (Kd.R_reads' HO_7.out).1; omega) | simpa only [Ny187.out, List.length_set] using h_); have ql188 : (((rd t175 x28_1) : Int) < ((x7_1.length : Int) : Int)) = True := eq_true (of_decide_eq_true (by first | (with_reducible assumption) | assumption)); obtain ⟨ad188, e188, hx188_0⟩ := Kd.at_int (Kd.R_reads' HO_7.out).2.2 (rd t175 x28_1) p188 q188; obtain rfl : (⟨go17, 0, none⟩ : Addr) = ad188 := (by injection e188); (first | simp only [add_plain] at hx188_0 | simp only [add_at] at hx188_0 | simp only [Addr.add, Nat.zero_add] at hx188_0 | skip); replace p188 := eq_true p188; replace q188 := eq_true q188; obtain ⟨Ao23, co23, eo23⟩ := Kd.R_slice HO_6.out; subst eo23) | ((with_reducible refine gate_callee (f := 27) rfl ?_); refine sh_call (some 50) Tryd.func27 #[.slice A0 l0.length c0, .slice Ao23 t179.length co23, .int .i64 (rd t175 x28_1)] ?_; (with_reducible refine (graph_next.calls _ _ l0 _ _ t179 (rd t175 x28_1) t189 _ ?side1 ?side2 ?side3 ?side4 ?side5 A19.out).mono ?_); (case side1 => repeat (first | exact (Kd.C_below HR0.out HB.out) | (with_reducible refine Kd.C_alloc ?_ _) | (with_reducible refine Kd.C_drewN ?_ _) | (with_reducible refine Kd.C_drew ?_))); (case side2 => exact HC0.out); (case side3 => repeat (first | exact (Kd.R_reads' HO_6.out).2.2 | (with_reducible refine Kd.C_alloc ?_ _) | (with_reducible refine Kd.C_drewN ?_ _) | (with_reducible refine Kd.C_drew ?_))); (case side4 => exact (Kd.R_reads' HO_6.out).2.1); (case side5 => repeat (first | exact (Kd.C_below HRG0.out HB.out) | (with_reducible refine Kd.C_alloc ?_ _) | (with_reducible refine Kd.C_drewN ?_ _) | (with_reducible refine Kd.C_drew ?_))); rintro e w24 ⟨v190, rfl, ho0, hb⟩; refine ⟨_, rfl, ?_⟩; have HO191 := Aside0.mk (Kd.R_lower (Kd.R_new' (Kd.R_new' ho0 (Kd.R_lt (by (with_reducible repeat (first | apply Kd.R_alloc | apply Kd.R_drewN | apply Kd.R_drew)); exact HO_4.out))) (Kd.R_lt (by (with_reducible repeat (first | apply Kd.R_alloc | apply Kd.R_drewN | apply Kd.R_drew)); exact HO_7.out))) (below_size b_now)); replace HO_4 := Aside0.mk (Kd.R_elder' (by (with_reducible repeat (first | apply Kd.R_alloc | apply Kd.R_drewN | apply Kd.R_drew)); exact HO_4.out) (Kd.R_base ho0) hb); replace HO_6 := Aside0.mk (Kd.R_below (by (with_reducible repeat (first | apply Kd.R_alloc | apply Kd.R_drewN | apply Kd.R_drew)); exact HO_6.out) hb); replace HO_7 := Aside0.mk (Kd.R_elder' (by (with_reducible repeat (first | apply Kd.R_alloc | apply Kd.R_drewN | apply Kd.R_drew)); exact HO_7.out) (Kd.R_base ho0) hb); replace HB := sh_b (w := w) hb; (try clear hb); (try clear hb2); (try clear hk); (try clear hi); (try clear ho0); obtain ⟨Ao25, co25, eo25⟩ := Kd.R_slice HO191.out; subst eo25))
           go_loopg [53] k1 (fun kq v53 w' => ∃ (x7_2 : List Int) (x53_2 : Int), v53 = .int .i64 x53_2 ∧ Aside0 (graph_Longest.l1 kq l0 t175 t179 x7_2 ji18 (rd t175 x28_1) t189 (t175.length : Int) x28_1 (t189.length : Int) x53_2 = some (r1, r2)) ∧ Aside0 (kq ≤ k1) ∧ Aside0 (Kd.R (Kd.int .i64) 3 w' w.heap.size (fun k_ => some k_ ≠ ((.slice (some ⟨go17, 0, none⟩) x7_1.length co20) : Value).ownBlock ∧ some k_ ≠ ((.slice Ao25 t189.length co25) : Value).ownBlock) (.slice (some ad185) t175.length co11) t175) ∧ Aside0 (Kd.R Kd.bool 4 w' w.heap.size (fun _ => True) (.slice Ao23 t179.length co23) t179) ∧ Aside0 (Kd.R (Kd.int .i64) 3 w' w.heap.size (fun k_ => some k_ ≠ ((.slice (some ad185) t175.length co11) : Value).ownBlock ∧ some k_ ≠ ((.slice Ao25 t189.length co25) : Value).ownBlock) (.slice (some ⟨go17, 0, none⟩) x7_1.length co20) x7_2) ∧ Aside0 (Kd.R (Kd.int .i64) 3 w' w.heap.size (fun k_ => some k_ ≠ ((.slice (some ad185) t175.length co11) : Value).ownBlock ∧ some k_ ≠ ((.slice (some ⟨go17, 0, none⟩) x7_1.length co20) : Value).ownBlock) (.slice Ao25 t189.length co25) t189) ∧ Aside0 (Below w.heap.size w w'))
           case atStart => exact ⟨(y187), (0), eq_now, H', ⟨Nat.le_refl _⟩, ⟨by (with_reducible repeat (first | apply Kd.R_alloc | apply Kd.R_drewN | apply Kd.R_drew)); exact Kd.R_mono HO_4.out (fun _ hk => ⟨hk.1.2, hk.2⟩)⟩, ⟨by (with_reducible repeat (first | apply Kd.R_alloc | apply Kd.R_drewN | apply Kd.R_drew)); exact HO_6.out⟩, ⟨by (with_reducible repeat (first | apply Kd.R_alloc | apply Kd.R_drewN | apply Kd.R_drew)); exact HO_7.out⟩, ⟨by (with_reducible repeat (first | apply Kd.R_alloc | apply Kd.R_drewN | apply Kd.R_drew)); exact Kd.R_mono HO191.out (fun _ hk => ⟨hk.1.2, hk.2⟩)⟩, ⟨b_now⟩⟩
           case round =>
            clear H'
            try clear c1
            try clear p1
            try clear q1
            try clear hx1
            try clear hf1
            try clear c2
            try clear p2
            try clear c3
            try clear c3b0
            try clear c3b1
            try clear c5
            try clear c5b0
            try clear c5b1
            try clear c6
            try clear c6b0
            try clear c6b1
            try clear p6
            try clear c12
            try clear c12b0
            try clear c13
            try clear c13b0
            try clear c14
            try clear c14b0
            try clear c15
            try clear c15b0
            try clear c16
            try clear c16b0
            try clear c17
            try clear p17
            try clear q17
            try clear hx17
            try clear hf17
            try clear p18
            try clear q18
            try clear hx18
            try clear hx17_0
            try clear hx185_0
            try clear hx186_0
            try clear hx188_0
            try clear p17
            try clear p185
            try clear p186
            try clear p188
            try clear p2
            try clear q17
            try clear q185
            try clear q186
            try clear q188
            obtain ⟨x7_2, x53_2, rfl, HA, HK2, HO_4, HO_6, HO_7, HO_11, HB⟩ := hrel
            have hl7_2 := (Kd.R_reads' HO_7.out).1
            rw [hl7_2] at HO_7
            (try simp only [hl7_2])
            (try simp only [hl7_2] at HO_4)
            (try simp only [hl7_2] at HO_6)
            (try simp only [hl7_2] at HO_11)
            cases gk with
            | zero => exact absurd HA.out (by simp [graph_Longest.l1])
            | succ k2 =>
             have H := HA.out
             clear HA
             simp only [graph_Longest.l1] at H
             by_cases c26 : x53_2 < (t189.length : Int)
             ·rw [if_pos c26] at H
              have c26b0 : decide (x53_2 < (t189.length : Int)) = true := decide_eq_true c26
              clear c26
              by_cases c27 : 0 ≤ x53_2
              ·rw [if_pos c27] at H
               have c27b0 : decide (0 ≤ x53_2) = true := decide_eq_true c27
               clear c27
               by_cases c28 : x53_2 < (t189.length : Int)
               ·rw [if_pos c28] at H
                have c28b0 : decide (x53_2 < (t189.length : Int)) = true := decide_eq_true c28
                clear c28
                by_cases c29 : 0 ≤ (rd t189 x53_2)
                ·rw [if_pos c29] at H
                 have c29b0 : decide (0 ≤ (rd t189 x53_2)) = true := decide_eq_true c29
                 clear c29
                 by_cases c30 : (rd t189 x53_2) < (x7_2.length : Int)
                 ·rw [if_pos c30] at H
                  have c30b0 : decide ((rd t189 x53_2) < (x7_2.length : Int)) = true := decide_eq_true c30
                  clear c30
                  by_cases c31 : 0 ≤ (rd t175 x28_1)
                  ·rw [if_pos c31] at H
                   have c31b0 : decide (0 ≤ (rd t175 x28_1)) = true := decide_eq_true c31
                   clear c31
                   by_cases c32 : (rd t175 x28_1) < (x7_2.length : Int)
                   ·rw [if_pos c32] at H
                    have c32b0 : decide ((rd t175 x28_1) < (x7_2.length : Int)) = true := decide_eq_true c32
                    clear c32
                    obtain ⟨ji33, hji33⟩ : ∃ j_ : Int, (mx (rd x7_2 (rd t189 x53_2)) (rd x7_2 (rd t175 x28_1))) = j_ := ⟨_, rfl⟩
                    replace H : (graph_Longest.l1 k2 l0 t175 t179 (x7_2.set ((rd t189 x53_2) : Int).toNat (ji33)) ji18 (rd t175 x28_1) t189 (t175.length : Int) x28_1 (t189.length : Int) (wrap64 (x53_2 + 1))) = some (r1, r2) := by first | (rw [hji33] at H; exact H) | (simp only [hji33] at H ⊢; exact H)
                    have hji33_ : (if (rd x7_2 (rd t189 x53_2)) < (rd x7_2 (rd t175 x28_1)) then (rd x7_2 (rd t175 x28_1)) else (rd x7_2 (rd t189 x53_2))) = ji33 := hji33
                    obtain ⟨y196, hy196⟩ : ∃ y_ : List Int, y_ = (x7_2.set ((rd t189 x53_2) : Int).toNat (ji33)) := ⟨_, rfl⟩
                    replace H : (graph_Longest.l1 k2 l0 t175 t179 y196 ji18 (rd t175 x28_1) t189 (t175.length : Int) x28_1 (t189.length : Int) (wrap64 (x53_2 + 1))) = some (r1, r2) := by first | (rw [hy196]; with_reducible exact H) | (have H2_ := (Option.bind_some _ _).symm.trans H; rw [hy196]; with_reducible exact H2_) | (have H2_ := (Option.bind_some _ _).symm.trans H; with_reducible exact H2_) | with_reducible exact H | (rw [hy196]; exact H) | exact H
                    have Ny196 := Aside0.mk hy196
                    clear hy196
                    have H' := Aside0.mk H
                    clear H
                    try go_wp2
                    have n0_ := Aside0.mk (Kd.R_drew HO_4.out)
                    have n1_ := Aside0.mk (Kd.R_drew HO_6.out)
                    have n2_ := Aside0.mk (Kd.R_drew HO_7.out)
                    have n3_ := Aside0.mk (Kd.R_drew HO_11.out)
                    have n4_ := Aside0.mk (below_drew1 HB.out)
                    clear HO_4
                    clear HO_6
                    clear HO_7
                    clear HO_11
                    clear HB
                    have HO_4 := n0_
                    have HO_6 := n1_
                    have HO_7 := n2_
                    have HO_11 := n3_
                    have HB := n4_
                    clear n0_ n1_ n2_ n3_ n4_
                    have p192 : 0 ≤ (x53_2 : Int) := of_decide_eq_true (by first | (with_reducible assumption) | assumption)
                    have q192 : x53_2 < (t189.length : Int) := of_decide_eq_true (by first | (with_reducible assumption) | assumption)
                    obtain ⟨ad192, e192, hx192_0⟩ := Kd.at_int (Kd.R_reads' HO_11.out).2.2 x53_2 p192 q192
                    cases e192
                    replace p192 := eq_true p192
                    replace q192 := eq_true q192
                    have p193 : 0 ≤ (x53_2 : Int) := of_decide_eq_true (by first | (with_reducible assumption) | assumption)
                    have q193 : x53_2 < (t189.length : Int) := of_decide_eq_true (by first | (with_reducible assumption) | assumption)
                    obtain ⟨ad193, e193, hx193_0⟩ := Kd.at_int (Kd.R_reads' HO_11.out).2.2 x53_2 p193 q193
                    obtain rfl : ad192 = ad193 := (by injection e193)
                    replace p193 := eq_true p193
                    replace q193 := eq_true q193
                    have p194 : 0 ≤ ((rd t189 x53_2) : Int) := of_decide_eq_true (by first | (with_reducible assumption) | assumption)
                    have q194 : (rd t189 x53_2) < (x7_2.length : Int) := of_decide_eq_true (by first | (with_reducible assumption) | assumption)
                    obtain ⟨ad194, e194, hx194_0⟩ := Kd.at_int (Kd.R_reads' HO_7.out).2.2 (rd t189 x53_2) p194 q194
                    obtain rfl : (⟨go17, 0, none⟩ : Addr) = ad194 := (by injection e194)
                    (first | simp only [add_plain] at hx194_0 | simp only [add_at] at hx194_0 | simp only [Addr.add, Nat.zero_add] at hx194_0 | skip)
                    replace p194 := eq_true p194
                    replace q194 := eq_true q194
                    have p195 : 0 ≤ ((rd t175 x28_1) : Int) := of_decide_eq_true (by first | (with_reducible assumption) | assumption)
                    have q195 : (rd t175 x28_1) < (x7_2.length : Int) := of_decide_eq_true (by first | (with_reducible assumption) | assumption)
                    obtain ⟨ad195, e195, hx195_0⟩ := Kd.at_int (Kd.R_reads' HO_7.out).2.2 (rd t175 x28_1) p195 q195
                    obtain rfl : (⟨go17, 0, none⟩ : Addr) = ad195 := (by injection e195)
                    (first | simp only [add_plain] at hx195_0 | simp only [add_at] at hx195_0 | simp only [Addr.add, Nat.zero_add] at hx195_0 | skip)
                    replace p195 := eq_true p195
                    replace q195 := eq_true q195
                    have p34 : 0 ≤ ((rd t189 x53_2) : Int) := of_decide_eq_true (by first | (with_reducible assumption) | assumption)
                    have q34 : ((rd t189 x53_2) : Int) < ((x7_2.length : Int) : Int) := of_decide_eq_true (by first | (with_reducible assumption) | assumption)
                    obtain ⟨hx34_0, hf34_0⟩ := Kd.R_celln 0 HO_7.out ((rd t189 x53_2) : Int) p34 q34
                    replace p34 := eq_true p34
                    replace q34 := eq_true q34
                    have HP36 := Kd.R_putn HO_7.out ((rd t189 x53_2) : Int) ji33
                    rw [← Ny196.out] at HP36
                    have HQ36 := Aside0.mk HP36
                    clear HP36
                    refine start_ (n := 19) (S := fun w' => w'.cell? (ad192.add (x53_2).toNat) = some (.int .i64 (rd t189 x53_2)) ∧ w'.cell? (ad192.add (x53_2).toNat) = some (.int .i64 (rd t189 x53_2)) ∧ w'.cell? ⟨go17, ((rd t189 x53_2)).toNat, none⟩ = some (.int .i64 (rd x7_2 (rd t189 x53_2))) ∧ w'.cell? ⟨go17, ((rd t175 x28_1)).toNat, none⟩ = some (.int .i64 (rd x7_2 (rd t175 x28_1)))) (ds := [18]) #[false, false, false, false, false, false, false, false, false, false, false, false, false, false, false, false, false, false, false] (by kernel_rfl) rfl rfl ⟨hx192_0, hx193_0, hx194_0, hx195_0⟩ (fun hHeld => ?_); refine with_tabW graph_Longest.tab17 graph_Longest.bits17 (fun HT_ HW_ => ?_)
                    generalize wr.drew = w35 at HO_4 HO_6 HO_7 HO_11 HB HQ36 hf34_0 hx192_0 hx193_0 hx194_0 hx195_0 hx34_0 hHeld ⊢
                    obtain ⟨gh17, ch17, eh17, _, _, cm17, HG17⟩ := Kd.R_form HO_7.out (by have h1_ := of_eq_true q34; have h2_ := of_eq_true p34; omega); (obtain rfl : go17 = gh17 := by (injection eh17 with ea_; injection ea_ with ea_; injection ea_)); have GH17 := Aside0.mk HG17; clear HG17; clear eh17
                    refine pure_ (i := 0) (N := some 56) (v := ?_) (a' := ?_) #[true, false, false, false, false, false, false, false, false, false, false, false, false, false, false, false, false, false, false] rfl rfl (any_of HT_.out (by kernel_rfl)) (fun _ _ _ h => h) (Or.inl ⟨by rfl, ?_⟩) ?_ ?_
                    rotate_left
                    ·intro w'
                     go_simp
                     with_reducible rfl
                    rotate_left
                    ·simp only [Act.put, List.setIfInBounds_toArray, List.set_cons_zero, List.set_cons_succ, i64_w, i32_w]
                     rfl
                    refine pure_ (i := 1) (N := some 57) (v := ?_) (a' := ?_) #[true, true, false, false, false, false, false, false, false, false, false, false, false, false, false, false, false, false, false] rfl rfl (any_of HT_.out (by kernel_rfl)) (fun _ _ _ h => h) (Or.inl ⟨by rfl, ?_⟩) ?_ ?_
                    rotate_left
                    ·intro w'
                     go_simp
                     with_reducible rfl
                    rotate_left
                    ·simp only [Act.put, List.setIfInBounds_toArray, List.set_cons_zero, List.set_cons_succ, i64_w, i32_w]
                     rfl
                    refine pure_ (i := 2) (N := some 58) (v := ?_) (a' := ?_) #[true, true, true, false, false, false, false, false, false, false, false, false, false, false, false, false, false, false, false] rfl rfl (any_of HT_.out (by kernel_rfl)) (fun _ _ _ h => h) (Or.inl ⟨by rfl, ?_⟩) ?_ ?_
                    rotate_left
                    ·intro w'
                     go_simp
                     with_reducible rfl
                    rotate_left
                    ·simp only [Act.put, List.setIfInBounds_toArray, List.set_cons_zero, List.set_cons_succ, i64_w, i32_w]
                     rfl
                    refine pure_ (i := 3) (N := some 59) (v := ?_) (a' := ?_) #[true, true, true, true, false, false, false, false, false, false, false, false, false, false, false, false, false, false, false] rfl rfl (any_of HT_.out (by kernel_rfl)) (fun _ _ _ h => h) (Or.inl ⟨by rfl, ?_⟩) ?_ ?_
                    rotate_left
                    ·intro w'
                     go_simp
                     with_reducible rfl
                    rotate_left
                    ·simp only [Act.put, List.setIfInBounds_toArray, List.set_cons_zero, List.set_cons_succ, i64_w, i32_w]
                     rfl
                    refine pure_ (i := 5) (N := some 61) (v := ?_) (a' := ?_) #[true, true, true, true, false, true, false, false, false, false, false, false, false, false, false, false, false, false, false] rfl rfl (any_of HT_.out (by kernel_rfl)) (fun _ _ _ h => h) (Or.inl ⟨by rfl, ?_⟩) ?_ ?_
                    rotate_left
                    ·intro w'
                     go_simp
                     with_reducible rfl
                    rotate_left
                    ·simp only [Act.put, List.setIfInBounds_toArray, List.set_cons_zero, List.set_cons_succ, i64_w, i32_w]
                     rfl
                    refine pure_ (i := 6) (N := some 62) (v := ?_) (a' := ?_) #[true, true, true, true, false, true, true, false, false, false, false, false, false, false, false, false, false, false, false] rfl rfl (any_of HT_.out (by kernel_rfl)) (fun _ _ _ h => h) (Or.inl ⟨by rfl, ?_⟩) ?_ ?_
                    rotate_left
                    ·intro w'
                     go_simp
                     with_reducible rfl
                    rotate_left
                    ·simp only [Act.put, List.setIfInBounds_toArray, List.set_cons_zero, List.set_cons_succ, i64_w, i32_w]
                     rfl
                    refine pure_ (i := 7) (N := some 63) (v := ?_) (a' := ?_) #[true, true, true, true, false, true, true, true, false, false, false, false, false, false, false, false, false, false, false] rfl rfl (any_of HT_.out (by kernel_rfl)) (fun _ _ _ h => h) (Or.inl ⟨by rfl, ?_⟩) ?_ ?_
                    rotate_left
                    ·intro w'
                     go_simp
                     with_reducible rfl
                    rotate_left
                    ·simp only [Act.put, List.setIfInBounds_toArray, List.set_cons_zero, List.set_cons_succ, i64_w, i32_w]
                     rfl
                    refine pure_ (i := 8) (N := some 64) (v := ?_) (a' := ?_) #[true, true, true, true, false, true, true, true, true, false, false, false, false, false, false, false, false, false, false] rfl rfl (any_of HT_.out (by kernel_rfl)) (fun _ _ _ h => h) (Or.inl ⟨by rfl, ?_⟩) ?_ ?_
                    rotate_left
                    ·intro w'
                     go_simp
                     with_reducible rfl
                    rotate_left
                    ·simp only [Act.put, List.setIfInBounds_toArray, List.set_cons_zero, List.set_cons_succ, i64_w, i32_w]
                     rfl
                    refine pure_ (i := 12) (N := some 68) (v := ?_) (a' := ?_) #[true, true, true, true, false, true, true, true, true, false, false, false, true, false, false, false, false, false, false] rfl rfl (any_of HT_.out (by kernel_rfl)) (fun _ _ _ h => h) (Or.inl ⟨by rfl, ?_⟩) ?_ ?_
                    rotate_left
                    ·intro w'
                     go_simp
                     with_reducible rfl
                    rotate_left
                    ·simp only [Act.put, List.setIfInBounds_toArray, List.set_cons_zero, List.set_cons_succ, i64_w, i32_w]
                     rfl
                    refine pure_ (i := 13) (N := some 69) (v := ?_) (a' := ?_) #[true, true, true, true, false, true, true, true, true, false, false, false, true, true, false, false, false, false, false] rfl rfl (any_of HT_.out (by kernel_rfl)) (fun _ _ _ h => h) (Or.inl ⟨by rfl, ?_⟩) ?_ ?_
                    rotate_left
                    ·intro w'
                     go_simp
                     with_reducible rfl
                    rotate_left
                    ·simp only [Act.put, List.setIfInBounds_toArray, List.set_cons_zero, List.set_cons_succ, i64_w, i32_w]
                     rfl
                    refine pure_ (i := 14) (N := some 70) (v := ?_) (a' := ?_) #[true, true, true, true, false, true, true, true, true, false, false, false, true, true, true, false, false, false, false] rfl rfl (any_of HT_.out (by kernel_rfl)) (fun _ _ _ h => h) (Or.inl ⟨by rfl, ?_⟩) ?_ ?_
                    rotate_left
                    ·intro w'
                     go_simp
                     with_reducible rfl
                    rotate_left
                    ·simp only [Act.put, List.setIfInBounds_toArray, List.set_cons_zero, List.set_cons_succ, i64_w, i32_w]
                     rfl
                    refine take_ (i := 4) (N := some 60) (v := ?_) (a' := ?_) #[true, true, true, true, true, true, true, true, true, false, false, false, true, true, true, false, false, false, false] rfl rfl (take_ofW HT_.out HW_.out (by kernel_rfl)) (fun _ _ _ h => h) (Or.inl ⟨by rfl, ?_⟩) hHeld ?_ ?_
                    rotate_left
                    ·rintro w' ⟨s0, s1, s2, s3⟩
                     go_simp
                     with_reducible rfl
                    rotate_left
                    ·simp only [Act.put, List.setIfInBounds_toArray, List.set_cons_zero, List.set_cons_succ, i64_w, i32_w]
                     rfl
                    refine take_ (i := 9) (N := some 65) (v := ?_) (a' := ?_) #[true, true, true, true, true, true, true, true, true, true, false, false, true, true, true, false, false, false, false] rfl rfl (take_ofW HT_.out HW_.out (by kernel_rfl)) (fun _ _ _ h => h) (Or.inl ⟨by rfl, ?_⟩) hHeld ?_ ?_
                    rotate_left
                    ·rintro w' ⟨s0, s1, s2, s3⟩
                     go_simp
                     with_reducible rfl
                    rotate_left
                    ·simp only [Act.put, List.setIfInBounds_toArray, List.set_cons_zero, List.set_cons_succ, i64_w, i32_w]
                     rfl
                    refine pure_ (i := 10) (N := some 66) (v := ?_) (a' := ?_) #[true, true, true, true, true, true, true, true, true, true, true, false, true, true, true, false, false, false, false] rfl rfl (any_of HT_.out (by kernel_rfl)) (fun _ _ _ h => h) (Or.inl ⟨by rfl, ?_⟩) ?_ ?_
                    rotate_left
                    ·intro w'
                     go_simp
                     with_reducible rfl
                    rotate_left
                    ·simp only [Act.put, List.setIfInBounds_toArray, List.set_cons_zero, List.set_cons_succ, i64_w, i32_w]
                     rfl
                    refine take_ (i := 11) (N := some 67) (v := ?_) (a' := ?_) #[true, true, true, true, true, true, true, true, true, true, true, true, true, true, true, false, false, false, false] rfl rfl (take_ofW HT_.out HW_.out (by kernel_rfl)) (fun _ _ _ h => h) (Or.inl ⟨by rfl, ?_⟩) hHeld ?_ ?_
                    rotate_left
                    ·rintro w' ⟨s0, s1, s2, s3⟩
                     go_simp
                     with_reducible rfl
                    rotate_left
                    ·simp only [Act.put, List.setIfInBounds_toArray, List.set_cons_zero, List.set_cons_succ, i64_w, i32_w]
                     rfl
                    refine take_ (i := 15) (N := some 71) (v := ?_) (a' := ?_) #[true, true, true, true, true, true, true, true, true, true, true, true, true, true, true, true, false, false, false] rfl rfl (take_ofW HT_.out HW_.out (by kernel_rfl)) (fun _ _ _ h => h) (Or.inl ⟨by rfl, ?_⟩) hHeld ?_ ?_
                    rotate_left
                    ·rintro w' ⟨s0, s1, s2, s3⟩
                     go_simp
                     with_reducible rfl
                    rotate_left
                    ·simp only [Act.put, List.setIfInBounds_toArray, List.set_cons_zero, List.set_cons_succ, i64_w, i32_w]
                     rfl
                    refine pure_ (i := 16) (N := some 72) (v := ?_) (a' := ?_) #[true, true, true, true, true, true, true, true, true, true, true, true, true, true, true, true, true, false, false] rfl rfl (any_of HT_.out (by kernel_rfl)) (fun _ _ _ h => h) (Or.inl ⟨by rfl, ?_⟩) ?_ ?_
                    rotate_left
                    ·intro w'
                     go_simp
                     with_reducible rfl
                    rotate_left
                    ·simp only [Act.put, List.setIfInBounds_toArray, List.set_cons_zero, List.set_cons_succ, i64_w, i32_w]
                     rfl
                    refine pure_ (i := 17) (N := some 73) (v := ?_) (a' := ?_) #[true, true, true, true, true, true, true, true, true, true, true, true, true, true, true, true, true, true, false] rfl rfl (any_of HT_.out (by kernel_rfl)) (fun _ _ _ h => h) (Or.inl ⟨by rfl, ?_⟩) ?_ ?_
                    rotate_left
                    ·intro w'
                     go_simp
                     with_reducible rfl
                    rotate_left
                    ·simp only [Act.put, List.setIfInBounds_toArray, List.set_cons_zero, List.set_cons_succ, i64_w, i32_w]
                     rfl
                    refine last_ (i := 18) (N := none) #[true, true, true, true, true, true, true, true, true, true, true, true, true, true, true, true, true, true, true] rfl rfl (one_of HT_.out (by kernel_rfl)) (by decide) (fun K hK => ?_)
                    refine skip_ (w1 := ?_) (by rfl) rfl ?_ ?_
                    rotate_left
                    ·go_simp
                     rfl
                    refine hK.out _ _ ?_
                    clear hK K
                    refine done_ (done_of HT_.out (by kernel_rfl)) ?_
                    try go_wp2
                    (try simp only [← hl7_2])
                    go_roundg k2
                    case measure => have := HK1.out; have := HK2.out; omega
                    case rel => exact ⟨(y196), (wrap64 (x53_2 + 1)), eq_now, H', ⟨by have := HK1.out; have := HK2.out; omega⟩, ⟨by (try simp only [hl7_2]); (with_reducible repeat (first | apply Kd.R_alloc | apply Kd.R_drewN | apply Kd.R_drew)); exact Kd.R_mono (Kd.R_far (p := ⟨go17, ((rd t189 x53_2) : Int).toNat, none⟩) (Kd.R_mono HO_4.out (fun k_ hk => (⟨hk, fun e_ => hk.1 (by rw [e_]; rfl)⟩ : _ ∧ k_ ≠ go17))) (fun _ hk => hk.2) (.int .i64 ji33)) (fun _ hk => ⟨hk.1.1, hk.1.2⟩)⟩, ⟨by (try simp only [hl7_2]); (with_reducible repeat (first | apply Kd.R_alloc | apply Kd.R_drewN | apply Kd.R_drew)); exact Kd.R_mono (Kd.R_far (p := ⟨go17, ((rd t189 x53_2) : Int).toNat, none⟩) (Kd.R_types HO_6.out GH17.out (by decide)) (fun _ hk => hk.2) (.int .i64 ji33)) (fun _ hk => trivial)⟩, ⟨by (try simp only [hl7_2]); (with_reducible repeat (first | apply Kd.R_alloc | apply Kd.R_drewN | apply Kd.R_drew)); exact HQ36.out⟩, ⟨by (try simp only [hl7_2]); (with_reducible repeat (first | apply Kd.R_alloc | apply Kd.R_drewN | apply Kd.R_drew)); exact Kd.R_mono (Kd.R_far (p := ⟨go17, ((rd t189 x53_2) : Int).toNat, none⟩) (Kd.R_mono HO_11.out (fun k_ hk => (⟨hk, fun e_ => hk.2 (by rw [e_]; rfl)⟩ : _ ∧ k_ ≠ go17))) (fun _ hk => hk.2) (.int .i64 ji33)) (fun _ hk => ⟨hk.1.1, hk.1.2⟩)⟩, ⟨by repeat (first | (with_reducible first | exact HB.out | apply below_alloc | apply pw_below_drewN | apply below_drew1 | refine below_set ?_ GB17.out) | exact HB.out)⟩⟩
                   ·rw [if_neg c32] at H
                    exact absurd H (by simp)
                  ·rw [if_neg c31] at H
                   exact absurd H (by simp)
                 ·rw [if_neg c30] at H
                  exact absurd H (by simp)
                ·rw [if_neg c29] at H
                 exact absurd H (by simp)
               ·rw [if_neg c28] at H
                exact absurd H (by simp)
              ·rw [if_neg c27] at H
               exact absurd H (by simp)
             ·rw [if_neg c26] at H
              have c26b0 : decide (x53_2 < (t189.length : Int)) = false := decide_eq_false c26
              clear c26
              have H' := Aside0.mk H
              clear H
              go_wp2
              (try simp only [← hl7_2])
              go_roundg k2
              case measure => have := HK1.out; have := HK2.out; omega
              case rel => exact ⟨(x7_2), (ji18), (wrap64 (x28_1 + 1)), (by first | rfl | (simp; done) | (simp only [← hji18] <;> (first | rfl | simp)) | (simp [*]; done)), eq_now, H', ⟨by have := HK1.out; have := HK2.out; omega⟩, ⟨by (try simp only [hl7_2]); (with_reducible repeat (first | apply Kd.R_alloc | apply Kd.R_drewN | apply Kd.R_drew)); exact Kd.R_mono HO_4.out (fun _ hk => hk.1)⟩, ⟨by (try simp only [hl7_2]); (with_reducible repeat (first | apply Kd.R_alloc | apply Kd.R_drewN | apply Kd.R_drew)); exact HO_6.out⟩, ⟨by (try simp only [hl7_2]); (with_reducible repeat (first | apply Kd.R_alloc | apply Kd.R_drewN | apply Kd.R_drew)); exact Kd.R_mono HO_7.out (fun _ hk => hk.1)⟩, ⟨b_now⟩⟩
          ·rw [if_neg c16] at H
           exact absurd H (by simp)
         ·rw [if_neg c15] at H
          exact absurd H (by simp)
        ·rw [if_neg c14] at H
         exact absurd H (by simp)
       ·rw [if_neg c13] at H
        exact absurd H (by simp)
      ·rw [if_neg c12] at H
       have c12b0 : decide (x28_1 < (t175.length : Int)) = false := decide_eq_false c12
       clear c12
       simp only [Option.some.injEq, Prod.mk.injEq] at H
       obtain ⟨rfl, rfl⟩ := H
       go_wp2
       go_ret2
       exact ⟨ret_now, b_now⟩
   ·rw [if_neg c6] at H
    exact absurd H (by simp)
  ·rw [if_neg c5] at H
   exact absurd H (by simp)
 ·rw [if_neg c3] at H
  have c3b0 : (t176 == 0) = false := beq_eq_false_iff_ne.mpr c3
  have c3b1 : (t176 != 0) = true := bne_iff_ne.mpr c3
  simp only [Option.some.injEq, Prod.mk.injEq] at H
  obtain ⟨rfl, rfl⟩ := H
  go_enter Tryd.func17, Tryd.ntmps17
  go_wp2_with (first | ((with_reducible refine gate_callee (f := 16) rfl ?_); refine sh_call (some 15) Tryd.func16 #[.slice A0 l0.length c0] ?_; (with_reducible refine (graph_Order.calls _ _ l0 t175 t176 _ ?side1 ?side2 ?side3 A2.out).mono ?_); (case side1 => repeat (first | exact HR0.out | (with_reducible refine Kd.C_alloc ?_ _) | (with_reducible refine Kd.C_drewN ?_ _) | (with_reducible refine Kd.C_drew ?_))); (case side2 => exact HC0.out); (case side3 => repeat (first | exact HRG0.out | (with_reducible refine Kd.C_alloc ?_ _) | (with_reducible refine Kd.C_drewN ?_ _) | (with_reducible refine Kd.C_drew ?_))); rintro e w37 ⟨v177, rfl, ho0, hb⟩; refine ⟨_, rfl, ?_⟩; have HO178 := Aside0.mk (Kd.R_lower ho0 (below_size b_now)); replace HB := sh_b (w := w) hb; (try clear hb); (try clear hb2); (try clear hk); (try clear hi); (try clear ho0)))
  go_ret2
  exact ⟨ret_now, b_now⟩

/-! ### graph_Dead: function 23 -/
def graph_Dead.l0 : Nat → List Bool → List Bool → Int → Int → Option (Int)
 | 0, _, _, _, _ => none
 | k + 1, x3, x4, x16, x17 => if x17 < x16 then (if 0 ≤ x17 then (if x17 < (x3.length : Int) then (if rdOf false x3 x17 = true then (if x17 < (x4.length : Int) then (if rdOf false x4 x17 = true then (graph_Dead.l0 k x3 x4 x16 (wrap64 (x17 + 1))) else (some x17)) else (none)) else (graph_Dead.l0 k x3 x4 x16 (wrap64 (x17 + 1)))) else (none)) else (none)) else (some (-1))
def graph_Dead.f (k : Nat) (l0 : List (S44)) : Option (Int) := (graph_starts.f k l0).bind fun t197 => ((graph_reached.f l0 t197).bind fun bt200 => (graph_Dead.l0 k t197 bt200.1 (l0.length : Int) 0))
theorem graph_Dead.mono_l : ∀ k, (∀ y0 y1 y2 y3, LeO (graph_Dead.l0 k y0 y1 y2 y3) (graph_Dead.l0 (k + 1) y0 y1 y2 y3))
 | 0 => fun _ _ _ _ r h => by simp [graph_Dead.l0] at h
 | k + 1 => by
  have ih0 := graph_Dead.mono_l k
  ·intro y0 y1 y2 y3
   unfold graph_Dead.l0
   repeat' first
   | (with_reducible exact ih0 _ _ _ _)
   | (with_reducible exact graph_starts.mono _ _)
   | (with_reducible exact LeO.refl _)
   | (with_reducible exact LeO.none _)
   | (with_reducible refine LeO.ite ?_ ?_)
   | (with_reducible refine LeO.bind ?_ (fun _ => ?_))
   | exact ih0 _ _ _ _
   | exact graph_starts.mono _ _
   | exact LeO.none _
   | refine LeO.ite ?_ ?_
   | refine LeO.bind ?_ (fun _ => ?_)
theorem graph_Dead.mono : ∀ a0 k, LeO (graph_Dead.f k a0) (graph_Dead.f (k + 1) a0) := by
 intro a0 k
 have ih0 := graph_Dead.mono_l k
 unfold graph_Dead.f
 repeat' first
   | (with_reducible exact ih0 _ _ _ _)
   | (with_reducible exact graph_starts.mono _ _)
   | (with_reducible exact LeO.refl _)
   | (with_reducible exact LeO.none _)
   | (with_reducible refine LeO.ite ?_ ?_)
   | (with_reducible refine LeO.bind ?_ (fun _ => ?_))
   | exact ih0 _ _ _ _
   | exact graph_starts.mono _ _
   | exact LeO.none _
   | refine LeO.ite ?_ ?_
   | refine LeO.bind ?_ (fun _ => ?_)
set_option maxHeartbeats 8000000 in
set_option maxRecDepth 100000 in
theorem graph_Dead.calls (k : Nat) (A0 : Option Addr) (c0 : Nat) (l0 : List (S44)) (r : Int) (w : World) (hr0 : Kd.C k44 w A0 l0.length l0) (hc0 : l0.length ≤ c0) (hrG0 : Kd.C (Kd.int .i64) w (some ⟨0, 0, none⟩) gl0.length gl0) (h : graph_Dead.f k l0 = some r) :
  Calls Tryd.prog 23 #[.slice A0 l0.length c0] w fun e w' => e = .returned (.int .i64 r) ∧ Below w.heap.size w w' := by
 have HR0 := Aside0.mk hr0
 have HC0 := Aside0.mk hc0
 clear hr0 hc0
 have HRG0 := Aside0.mk hrG0
 clear hrG0
 have HB := Aside0.mk (Below.refl w.heap.size w)
 have H : ((graph_starts.f k l0).bind fun t197 => ((graph_reached.f l0 t197).bind fun bt200 => (graph_Dead.l0 k t197 bt200.1 (l0.length : Int) 0))) = some r := h
 clear h
 replace H := Option.bind_eq_some_iff.mp H; obtain ⟨t197, A20, H⟩ := H; try dsimp only at H
 have A2 := Aside0.mk A20
 clear A20
 replace H := Option.bind_eq_some_iff.mp H; obtain ⟨⟨t200, t201⟩, A30, H⟩ := H; try dsimp only at H
 have A3 := Aside0.mk A30
 clear A30
 have H' := Aside0.mk H
 clear H
 go_enter Tryd.func23, Tryd.ntmps23
 go_wp2_with (first | ((with_reducible refine gate_callee (f := 28) rfl ?_); refine sh_call (some 8) Tryd.func28 #[.slice A0 l0.length c0] ?_; (with_reducible refine (graph_starts.calls k _ _ l0 t197 _ ?side1 ?side2 ?side3 A2.out).mono ?_); (case side1 => repeat (first | exact HR0.out | (with_reducible refine Kd.C_alloc ?_ _) | (with_reducible refine Kd.C_drewN ?_ _) | (with_reducible refine Kd.C_drew ?_))); (case side2 => exact HC0.out); (case side3 => repeat (first | exact HRG0.out | (with_reducible refine Kd.C_alloc ?_ _) | (with_reducible refine Kd.C_drewN ?_ _) | (with_reducible refine Kd.C_drew ?_))); rintro e w4 ⟨v198, rfl, ho0, hb⟩; refine ⟨_, rfl, ?_⟩; have HO199 := Aside0.mk (Kd.R_lower ho0 (below_size b_now)); replace HB := sh_b (w := w) hb; (try clear hb); (try clear hb2); (try clear hk); (try clear hi); (try clear ho0); obtain ⟨Ao5, co5, eo5⟩ := Kd.R_slice HO199.out; subst eo5) | ((with_reducible refine gate_callee (f := 30) rfl ?_); refine sh_call (some 12) Tryd.func30 #[.slice A0 l0.length c0, .slice Ao5 t197.length co5] ?_; (with_reducible refine (graph_reached.calls _ _ l0 _ _ t197 t200 t201 _ ?side1 ?side2 ?side3 ?side4 ?side5 A3.out).mono ?_); (case side1 => repeat (first | exact (Kd.C_below HR0.out HB.out) | (with_reducible refine Kd.C_alloc ?_ _) | (with_reducible refine Kd.C_drewN ?_ _) | (with_reducible refine Kd.C_drew ?_))); (case side2 => exact HC0.out); (case side3 => repeat (first | exact (Kd.R_reads' HO199.out).2.2 | (with_reducible refine Kd.C_alloc ?_ _) | (with_reducible refine Kd.C_drewN ?_ _) | (with_reducible refine Kd.C_drew ?_))); (case side4 => exact (Kd.R_reads' HO199.out).2.1); (case side5 => repeat (first | exact (Kd.C_below HRG0.out HB.out) | (with_reducible refine Kd.C_alloc ?_ _) | (with_reducible refine Kd.C_drewN ?_ _) | (with_reducible refine Kd.C_drew ?_))); rintro e w6 ⟨v202, v204, rfl, ho0, ho1, hb⟩; refine ⟨_, rfl, ?_⟩; have HO203 := Aside0.mk (Kd.R_lower (Kd.R_new' ho0 (Kd.R_lt (by (with_reducible repeat (first | apply Kd.R_alloc | apply Kd.R_drewN | apply Kd.R_drew)); exact HO199.out))) (below_size b_now)); have HO205 := Aside0.mk (Kd.R_lower ho1 (below_size b_now)); replace HO199 := Aside0.mk (Kd.R_elder' (by (with_reducible repeat (first | apply Kd.R_alloc | apply Kd.R_drewN | apply Kd.R_drew)); exact HO199.out) (Kd.R_base ho0) hb); replace HB := sh_b (w := w) hb; (try clear hb); (try clear hb2); (try clear hk); (try clear hi); (try clear ho0); (try clear ho1)))
 go_loopg [17] k (fun kq v17 w' => ∃ (x17_1 : Int), v17 = .int .i64 x17_1 ∧ Aside0 (graph_Dead.l0 kq t197 t200 (l0.length : Int) x17_1 = some r) ∧ Aside0 (kq ≤ k) ∧ Aside0 (Kd.R Kd.bool 4 w' w.heap.size (fun k_ => some k_ ≠ (v202 : Value).ownBlock) (.slice Ao5 t197.length co5) t197) ∧ Aside0 (Kd.R Kd.bool 4 w' w.heap.size (fun k_ => some k_ ≠ ((.slice Ao5 t197.length co5) : Value).ownBlock) v202 t200) ∧ Aside0 (Below w.heap.size w w'))
 case atStart => exact ⟨(0), eq_now, H', ⟨Nat.le_refl _⟩, ⟨by (with_reducible repeat (first | apply Kd.R_alloc | apply Kd.R_drewN | apply Kd.R_drew)); exact Kd.R_mono HO199.out (fun _ hk => hk.2)⟩, ⟨by (with_reducible repeat (first | apply Kd.R_alloc | apply Kd.R_drewN | apply Kd.R_drew)); exact Kd.R_mono HO203.out (fun _ hk => hk.2)⟩, ⟨b_now⟩⟩
 case round =>
  clear H'
  try clear c2
  try clear p2
  try clear c3
  obtain ⟨x17_1, rfl, HA, HK1, HO_3, HO_4, HB⟩ := hrel
  cases gk with
  | zero => exact absurd HA.out (by simp [graph_Dead.l0])
  | succ k1 =>
   have H := HA.out
   clear HA
   simp only [graph_Dead.l0] at H
   by_cases c7 : x17_1 < (l0.length : Int)
   ·rw [if_pos c7] at H
    have c7b0 : decide (x17_1 < (l0.length : Int)) = true := decide_eq_true c7
    clear c7
    by_cases c8 : 0 ≤ x17_1
    ·rw [if_pos c8] at H
     have c8b0 : decide (0 ≤ x17_1) = true := decide_eq_true c8
     clear c8
     by_cases c9 : x17_1 < (t197.length : Int)
     ·rw [if_pos c9] at H
      have c9b0 : decide (x17_1 < (t197.length : Int)) = true := decide_eq_true c9
      clear c9
      obtain ⟨bq10, hbq10⟩ : ∃ b_ : Bool, b_ = (rdOf false t197 x17_1) := ⟨_, rfl⟩
      replace H : (if bq10 = true then (if x17_1 < (t200.length : Int) then (if rdOf false t200 x17_1 = true then (graph_Dead.l0 k1 t197 t200 (l0.length : Int) (wrap64 (x17_1 + 1))) else (some x17_1)) else (none)) else (graph_Dead.l0 k1 t197 t200 (l0.length : Int) (wrap64 (x17_1 + 1)))) = some r := by rw [← hbq10] at H; exact H
      have Nbq10 := Aside0.mk hbq10
      clear hbq10
      by_cases c11 : bq10 = true
      ·subst c11
       replace H := sh_t H
       by_cases c12 : x17_1 < (t200.length : Int)
       ·rw [if_pos c12] at H
        have c12b0 : decide (x17_1 < (t200.length : Int)) = true := decide_eq_true c12
        clear c12
        obtain ⟨bq13, hbq13⟩ : ∃ b_ : Bool, b_ = (rdOf false t200 x17_1) := ⟨_, rfl⟩
        replace H : (if bq13 = true then (graph_Dead.l0 k1 t197 t200 (l0.length : Int) (wrap64 (x17_1 + 1))) else (some x17_1)) = some r := by rw [← hbq13] at H; exact H
        have Nbq13 := Aside0.mk hbq13
        clear hbq13
        by_cases c14 : bq13 = true
        ·subst c14
         replace H := sh_t H
         have H' := Aside0.mk H
         clear H
         have p206 : 0 ≤ (x17_1 : Int) := of_decide_eq_true (by first | (with_reducible assumption) | assumption)
         have q206 : x17_1 < (t197.length : Int) := of_decide_eq_true (by first | (with_reducible assumption) | assumption)
         obtain ⟨ad206, e206, hx206_0⟩ := Kd.at_bool (Kd.R_reads' HO_3.out).2.2 x17_1 p206 q206
         (try rw [← Nbq10.out] at hx206_0)
         (try rw [← Nbq13.out] at hx206_0)
         cases e206
         replace p206 := eq_true p206
         replace q206 := eq_true q206
         obtain ⟨Ao15, co15, eo15⟩ := Kd.R_slice HO_4.out
         subst eo15
         have p207 : 0 ≤ (x17_1 : Int) := of_decide_eq_true (by first | (with_reducible assumption) | assumption)
         have q207 : x17_1 < (t200.length : Int) := of_decide_eq_true (by first | (with_reducible assumption) | assumption)
         obtain ⟨ad207, e207, hx207_0⟩ := Kd.at_bool (Kd.R_reads' HO_4.out).2.2 x17_1 p207 q207
         (try rw [← Nbq10.out] at hx207_0)
         (try rw [← Nbq13.out] at hx207_0)
         cases e207
         replace p207 := eq_true p207
         replace q207 := eq_true q207
         go_wp2
         go_roundg k1
         case measure => have := HK1.out; omega
         case rel => exact ⟨(wrap64 (x17_1 + 1)), eq_now, H', ⟨by have := HK1.out; omega⟩, ⟨by (with_reducible repeat (first | apply Kd.R_alloc | apply Kd.R_drewN | apply Kd.R_drew)); exact HO_3.out⟩, ⟨by (with_reducible repeat (first | apply Kd.R_alloc | apply Kd.R_drewN | apply Kd.R_drew)); exact HO_4.out⟩, ⟨b_now⟩⟩
        ·replace c14 := Bool.eq_false_iff.mpr c14
         subst c14
         replace H := sh_f H
         obtain rfl := Option.some.inj H
         have p206 : 0 ≤ (x17_1 : Int) := of_decide_eq_true (by first | (with_reducible assumption) | assumption)
         have q206 : x17_1 < (t197.length : Int) := of_decide_eq_true (by first | (with_reducible assumption) | assumption)
         obtain ⟨ad206, e206, hx206_0⟩ := Kd.at_bool (Kd.R_reads' HO_3.out).2.2 x17_1 p206 q206
         (try rw [← Nbq10.out] at hx206_0)
         (try rw [← Nbq13.out] at hx206_0)
         cases e206
         replace p206 := eq_true p206
         replace q206 := eq_true q206
         obtain ⟨Ao16, co16, eo16⟩ := Kd.R_slice HO_4.out
         subst eo16
         have p207 : 0 ≤ (x17_1 : Int) := of_decide_eq_true (by first | (with_reducible assumption) | assumption)
         have q207 : x17_1 < (t200.length : Int) := of_decide_eq_true (by first | (with_reducible assumption) | assumption)
         obtain ⟨ad207, e207, hx207_0⟩ := Kd.at_bool (Kd.R_reads' HO_4.out).2.2 x17_1 p207 q207
         (try rw [← Nbq10.out] at hx207_0)
         (try rw [← Nbq13.out] at hx207_0)
         cases e207
         replace p207 := eq_true p207
         replace q207 := eq_true q207
         go_wp2
         go_ret
         exact ⟨ret_now, b_now⟩
       ·rw [if_neg c12] at H
        exact absurd H (by simp)
      ·replace c11 := Bool.eq_false_iff.mpr c11
       subst c11
       replace H := sh_f H
       have H' := Aside0.mk H
       clear H
       have p206 : 0 ≤ (x17_1 : Int) := of_decide_eq_true (by first | (with_reducible assumption) | assumption)
       have q206 : x17_1 < (t197.length : Int) := of_decide_eq_true (by first | (with_reducible assumption) | assumption)
       obtain ⟨ad206, e206, hx206_0⟩ := Kd.at_bool (Kd.R_reads' HO_3.out).2.2 x17_1 p206 q206
       (try rw [← Nbq10.out] at hx206_0)
       cases e206
       replace p206 := eq_true p206
       replace q206 := eq_true q206
       go_wp2
       go_roundg k1
       case measure => have := HK1.out; omega
       case rel => exact ⟨(wrap64 (x17_1 + 1)), eq_now, H', ⟨by have := HK1.out; omega⟩, ⟨by (with_reducible repeat (first | apply Kd.R_alloc | apply Kd.R_drewN | apply Kd.R_drew)); exact HO_3.out⟩, ⟨by (with_reducible repeat (first | apply Kd.R_alloc | apply Kd.R_drewN | apply Kd.R_drew)); exact HO_4.out⟩, ⟨b_now⟩⟩
     ·rw [if_neg c9] at H
      exact absurd H (by simp)
    ·rw [if_neg c8] at H
     exact absurd H (by simp)
   ·rw [if_neg c7] at H
    have c7b0 : decide (x17_1 < (l0.length : Int)) = false := decide_eq_false c7
    clear c7
    obtain rfl := Option.some.inj H
    go_wp2
    go_ret
    exact ⟨ret_now, b_now⟩

/-! ### stockadelaw05_rows: function 26 -/
def stockadelaw05_rows.f (a0_0 : Int) (a0_1 : Int) (a0_2 : Int) (a0_3 : Int) (a0_4 : Int) : Option ((List (S44))) := some (([(⟨21, 0, 0, 2, 0⟩ : S44), (⟨24, 0, 0, 0, 0⟩ : S44), (⟨0, 0, 0, 0, 0⟩ : S44), (⟨a0_0, a0_1, a0_2, a0_3, a0_4⟩ : S44), (⟨5, 0, 0, (-4), 0⟩ : S44)] : List (S44)))
set_option maxHeartbeats 8000000 in
set_option maxRecDepth 100000 in
theorem stockadelaw05_rows.calls (a0_0 : Int) (a0_1 : Int) (a0_2 : Int) (a0_3 : Int) (a0_4 : Int) (r : List (S44)) (w : World) (h : stockadelaw05_rows.f a0_0 a0_1 a0_2 a0_3 a0_4 = some r) :
  Calls Tryd.prog 26 #[.agg #[.int .u8 a0_0, .int .u8 a0_1, .int .u8 a0_2, .int .i16 a0_3, .int .i32 a0_4]] w fun e w' => ∃ v0_ : Value, e = .returned (v0_) ∧ Kd.R k44 44 w' w.heap.size (fun _ => True) v0_ r ∧ Below w.heap.size w w' := by
 have hu44 := Tryd.underlying44
 have HB := Aside0.mk (Below.refl w.heap.size w)
 have H : (some (([(⟨21, 0, 0, 2, 0⟩ : S44), (⟨24, 0, 0, 0, 0⟩ : S44), (⟨0, 0, 0, 0, 0⟩ : S44), (⟨a0_0, a0_1, a0_2, a0_3, a0_4⟩ : S44), (⟨5, 0, 0, (-4), 0⟩ : S44)] : List (S44)))) = some r := h
 clear h
 obtain ⟨y209, hy209⟩ : ∃ y_ : List (S44), y_ = (([(⟨21, 0, 0, 2, 0⟩ : S44), (⟨24, 0, 0, 0, 0⟩ : S44), (⟨0, 0, 0, 0, 0⟩ : S44), (⟨a0_0, a0_1, a0_2, a0_3, a0_4⟩ : S44), (⟨5, 0, 0, (-4), 0⟩ : S44)] : List (S44))) := ⟨_, rfl⟩
 replace H : (some y209) = some r := by first | (rw [hy209]; with_reducible exact H) | (have H2_ := (Option.bind_some _ _).symm.trans H; rw [hy209]; with_reducible exact H2_) | (have H2_ := (Option.bind_some _ _).symm.trans H; with_reducible exact H2_) | with_reducible exact H | (rw [hy209]; exact H) | exact H
 have Ny209 := Aside0.mk hy209
 clear hy209
 obtain rfl := Option.some.inj H
 go_enter Tryd.func26, Tryd.ntmps26
 go_wp2_with (first | ((with_reducible refine gate_dst (N := 1) rfl ?_); refine sh_box 1 #[.int .u8 a0_0, .int .u8 a0_1, .int .u8 a0_2, .int .i16 a0_3, .int .i32 a0_4] 44 ?_; intro gb208 hg w2 hbox hb; have GE208 := sh_z (w := w) hg; replace HB := sh_b (w := w) hb; have BK208 := Aside0.mk (hbox); clear hb hbox hg; have hcz3 := blk_all5 BK208.out) | ((with_reducible refine gate_dst (N := 8) rfl ?_); refine Kd.R_lit k44 _ 44 ?hg (N := 8) ?hd (xs := ([(⟨21, 0, 0, 2, 0⟩ : S44), (⟨24, 0, 0, 0, 0⟩ : S44), (⟨0, 0, 0, 0, 0⟩ : S44), (⟨a0_0, a0_1, a0_2, a0_3, a0_4⟩ : S44), (⟨5, 0, 0, (-4), 0⟩ : S44)] : List (S44))) (inner := [.int .u8 21, .int .u8 0, .int .u8 0, .int .i16 2, .int .i32 0, .int .u8 24, .int .u8 0, .int .u8 0, .int .i16 0, .int .i32 0, .int .u8 0, .int .u8 0, .int .u8 0, .int .i16 0, .int .i32 0, .int .u8 a0_0, .int .u8 a0_1, .int .u8 a0_2, .int .i16 a0_3, .int .i32 a0_4, .int .u8 5, .int .u8 0, .int .u8 0, .int .i16 (-4), .int .i32 0]) (ok := fun _ => True) (okp := fun _ => True) ?hr ?hp (fun _ hk => hk) trivial (Below.refl _ _) (Nat.le_refl _) (by simp) ?_; (case hd => rfl); (case hg => rfl); (case hr => first | (go_simp; done) | (go_simp; rfl)); (case hp => exact (Reps.c5 (show Kd.M k44 _ _ _ (⟨21, 0, 0, 2, 0⟩ : S44) [.int .u8 21, .int .u8 0, .int .u8 0, .int .i16 2, .int .i32 0] from (k44_mkM _ _ _ (⟨21, 0, 0, 2, 0⟩ : S44) )) (Reps.c5 (show Kd.M k44 _ _ _ (⟨24, 0, 0, 0, 0⟩ : S44) [.int .u8 24, .int .u8 0, .int .u8 0, .int .i16 0, .int .i32 0] from (k44_mkM _ _ _ (⟨24, 0, 0, 0, 0⟩ : S44) )) (Reps.c5 (show Kd.M k44 _ _ _ (⟨0, 0, 0, 0, 0⟩ : S44) [.int .u8 0, .int .u8 0, .int .u8 0, .int .i16 0, .int .i32 0] from (k44_mkM _ _ _ (⟨0, 0, 0, 0, 0⟩ : S44) )) (Reps.c5 (show Kd.M k44 _ _ _ (⟨a0_0, a0_1, a0_2, a0_3, a0_4⟩ : S44) [.int .u8 a0_0, .int .u8 a0_1, .int .u8 a0_2, .int .i16 a0_3, .int .i32 a0_4] from (k44_mkM _ _ _ (⟨a0_0, a0_1, a0_2, a0_3, a0_4⟩ : S44) )) (Reps.c5 (show Kd.M k44 _ _ _ (⟨5, 0, 0, (-4), 0⟩ : S44) [.int .u8 5, .int .u8 0, .int .u8 0, .int .i16 (-4), .int .i32 0] from (k44_mkM _ _ _ (⟨5, 0, 0, (-4), 0⟩ : S44) )) (Reps.none _ _))))))); intro v210 w4 ho5 hb hg_ hnew_; clear hg_ hnew_; (first | rw [← Ny209.out] at ho5 | (simp only [Int.reduceToNat] at ho5; rw [← Ny209.out] at ho5)); have HO211 := Aside0.mk (Kd.R_lower (Kd.R_newB ho5 (g := gb208) (o := .cells #[.int .u8 a0_0, .int .u8 a0_1, .int .u8 a0_2, .int .i16 a0_3, .int .i32 a0_4] 44 (0, 0)) bk_now) (below_size b_now)); replace BK208 := sh_k BK208 hb; replace HB := sh_b (w := w) hb; clear hb ho5))
 go_ret
 exact ⟨_, ret_now, by (with_reducible repeat (first | apply Kd.R_alloc | apply Kd.R_drewN | apply Kd.R_drew)); exact Kd.R_mono HO211.out (fun _ hk => trivial), b_now⟩

end Go.Proofs.YtkjcjlegokdpdaaDoor.P
