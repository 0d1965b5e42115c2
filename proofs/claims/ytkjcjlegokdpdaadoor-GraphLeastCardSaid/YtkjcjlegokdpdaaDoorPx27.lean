/- Made by this session's driver over the kit's printer: for each Go function a Lean function with the same answers, and a proof that the Go call comes to these answers; no conditions but the ones each theorem names. -/
import Derived.Test.YtkjcjlegokdpdaaDoorPx0
namespace Go.Proofs.YtkjcjlegokdpdaaDoor.P
open Go.RowKit Go.Proofs.YtkjcjlegokdpdaaDoorW.PrintWords Go.Proofs.YtkjcjlegokdpdaaDoorW.PrintLast Go.Proofs.YtkjcjlegokdpdaaDoorW.PrintMore
attribute [local go_sem] max2_int min2_int max_two min_two max_three min_three max_four min_four   -- for this text's walks alone
set_option linter.unusedVariables false
set_option linter.unusedSimpArgs false

/-! ### stockadelaw05_free: function 25 -/
mutual
def stockadelaw05_free.l0 : Nat → List (List Int) → List Bool → List Bool → List Bool → Int → Option (Int)
 | 0, _, _, _, _, _ => none
 | k + 1, x0, x1, x2, x7, x8 => if x8 < (x0.length : Int) then (stockadelaw05_free.l1 k x0 x1 x2 x7 x8 0) else (stockadelaw05_free.l2 k x0 x1 x2 x7 0)
def stockadelaw05_free.l1 : Nat → List (List Int) → List Bool → List Bool → List Bool → Int → Int → Option (Int)
 | 0, _, _, _, _, _, _ => none
 | k + 1, x0, x1, x2, x7, x8, x9 => if 0 ≤ x8 then (if x8 < (x0.length : Int) then (if x9 < ((rd_L8 x0 x8).length : Int) then (if x8 < (x1.length : Int) then (if rdOf false x1 x8 = true then (if x8 < (x2.length : Int) then (if rdOf false x2 x8 = true then (stockadelaw05_free.l1 k x0 x1 x2 x7 x8 (wrap64 (x9 + 1))) else (if 0 ≤ x9 then (if 0 ≤ (rd (rd_L8 x0 x8) x9) then (if (rd (rd_L8 x0 x8) x9) < (x7.length : Int) then (stockadelaw05_free.l1 k x0 x1 x2 (x7.set ((rd (rd_L8 x0 x8) x9) : Int).toNat true) x8 (wrap64 (x9 + 1))) else (none)) else (none)) else (none))) else (none)) else (stockadelaw05_free.l1 k x0 x1 x2 x7 x8 (wrap64 (x9 + 1)))) else (none)) else (stockadelaw05_free.l0 k x0 x1 x2 x7 (wrap64 (x8 + 1)))) else (none)) else (none)
def stockadelaw05_free.l2 : Nat → List (List Int) → List Bool → List Bool → List Bool → Int → Option (Int)
 | 0, _, _, _, _, _ => none
 | k + 1, x0, x1, x2, x7, x10 => if x10 < (x0.length : Int) then (if 0 ≤ x10 then (if x10 < (x1.length : Int) then (if rdOf false x1 x10 = true then (if x10 < (x2.length : Int) then (if rdOf false x2 x10 = true then (stockadelaw05_free.l2 k x0 x1 x2 x7 (wrap64 (x10 + 1))) else (if x10 < (x7.length : Int) then (if rdOf false x7 x10 = true then (stockadelaw05_free.l2 k x0 x1 x2 x7 (wrap64 (x10 + 1))) else (some x10)) else (none))) else (none)) else (stockadelaw05_free.l2 k x0 x1 x2 x7 (wrap64 (x10 + 1)))) else (none)) else (none)) else (some (-1))
end
def stockadelaw05_free.f (k : Nat) (l0 : List (List Int)) (l1 : List Bool) (l2 : List Bool) : Option (Int) := if 0 ≤ (l0.length : Int) then (if ((l0.length : Int) : Int).toNat ≤ 281474976710656 then (stockadelaw05_free.l0 k l0 l1 l2 (List.replicate ((l0.length : Int) : Int).toNat false) 0) else (none)) else (none)
theorem stockadelaw05_free.mono_l : ∀ k, (∀ y0 y1 y2 y3 y4, LeO (stockadelaw05_free.l0 k y0 y1 y2 y3 y4) (stockadelaw05_free.l0 (k + 1) y0 y1 y2 y3 y4)) ∧ (∀ y0 y1 y2 y3 y4 y5, LeO (stockadelaw05_free.l1 k y0 y1 y2 y3 y4 y5) (stockadelaw05_free.l1 (k + 1) y0 y1 y2 y3 y4 y5)) ∧ (∀ y0 y1 y2 y3 y4, LeO (stockadelaw05_free.l2 k y0 y1 y2 y3 y4) (stockadelaw05_free.l2 (k + 1) y0 y1 y2 y3 y4))
 | 0 => ⟨fun _ _ _ _ _ r h => by simp [stockadelaw05_free.l0] at h, fun _ _ _ _ _ _ r h => by simp [stockadelaw05_free.l1] at h, fun _ _ _ _ _ r h => by simp [stockadelaw05_free.l2] at h⟩
 | k + 1 => by
  obtain ⟨ih0, ih1, ih2⟩ := stockadelaw05_free.mono_l k
  refine ⟨?_, ?_, ?_⟩
  ·intro y0 y1 y2 y3 y4
   unfold stockadelaw05_free.l0
   repeat' first
   | (with_reducible exact ih0 _ _ _ _ _)
   | (with_reducible exact ih1 _ _ _ _ _ _)
   | (with_reducible exact ih2 _ _ _ _ _)
   | (with_reducible exact LeO.refl _)
   | (with_reducible exact LeO.none _)
   | (with_reducible refine LeO.ite ?_ ?_)
   | (with_reducible refine LeO.bind ?_ (fun _ => ?_))
   | exact ih0 _ _ _ _ _
   | exact ih1 _ _ _ _ _ _
   | exact ih2 _ _ _ _ _
   | exact LeO.none _
   | refine LeO.ite ?_ ?_
   | refine LeO.bind ?_ (fun _ => ?_)
  ·intro y0 y1 y2 y3 y4 y5
   unfold stockadelaw05_free.l1
   repeat' first
   | (with_reducible exact ih0 _ _ _ _ _)
   | (with_reducible exact ih1 _ _ _ _ _ _)
   | (with_reducible exact ih2 _ _ _ _ _)
   | (with_reducible exact LeO.refl _)
   | (with_reducible exact LeO.none _)
   | (with_reducible refine LeO.ite ?_ ?_)
   | (with_reducible refine LeO.bind ?_ (fun _ => ?_))
   | exact ih0 _ _ _ _ _
   | exact ih1 _ _ _ _ _ _
   | exact ih2 _ _ _ _ _
   | exact LeO.none _
   | refine LeO.ite ?_ ?_
   | refine LeO.bind ?_ (fun _ => ?_)
  ·intro y0 y1 y2 y3 y4
   unfold stockadelaw05_free.l2
   repeat' first
   | (with_reducible exact ih0 _ _ _ _ _)
   | (with_reducible exact ih1 _ _ _ _ _ _)
   | (with_reducible exact ih2 _ _ _ _ _)
   | (with_reducible exact LeO.refl _)
   | (with_reducible exact LeO.none _)
   | (with_reducible refine LeO.ite ?_ ?_)
   | (with_reducible refine LeO.bind ?_ (fun _ => ?_))
   | exact ih0 _ _ _ _ _
   | exact ih1 _ _ _ _ _ _
   | exact ih2 _ _ _ _ _
   | exact LeO.none _
   | refine LeO.ite ?_ ?_
   | refine LeO.bind ?_ (fun _ => ?_)
theorem stockadelaw05_free.mono : ∀ a0 a1 a2 k, LeO (stockadelaw05_free.f k a0 a1 a2) (stockadelaw05_free.f (k + 1) a0 a1 a2) := by
 intro a0 a1 a2 k
 obtain ⟨ih0, ih1, ih2⟩ := stockadelaw05_free.mono_l k
 unfold stockadelaw05_free.f
 repeat' first
   | (with_reducible exact ih0 _ _ _ _ _)
   | (with_reducible exact ih1 _ _ _ _ _ _)
   | (with_reducible exact ih2 _ _ _ _ _)
   | (with_reducible exact LeO.refl _)
   | (with_reducible exact LeO.none _)
   | (with_reducible refine LeO.ite ?_ ?_)
   | (with_reducible refine LeO.bind ?_ (fun _ => ?_))
   | exact ih0 _ _ _ _ _
   | exact ih1 _ _ _ _ _ _
   | exact ih2 _ _ _ _ _
   | exact LeO.none _
   | refine LeO.ite ?_ ?_
   | refine LeO.bind ?_ (fun _ => ?_)
set_option maxHeartbeats 8000000 in
set_option maxRecDepth 100000 in
theorem stockadelaw05_free.calls (k : Nat) (A0 : Option Addr) (c0 : Nat) (l0 : List (List Int)) (A1 : Option Addr) (c1 : Nat) (l1 : List Bool) (A2 : Option Addr) (c2 : Nat) (l2 : List Bool) (r : Int) (w : World) (hr0 : Kd.C (Kd.slice 3 (Kd.int .i64)) w A0 l0.length l0) (hc0 : l0.length ≤ c0) (hr1 : Kd.C Kd.bool w A1 l1.length l1) (hc1 : l1.length ≤ c1) (hr2 : Kd.C Kd.bool w A2 l2.length l2) (hc2 : l2.length ≤ c2) (h : stockadelaw05_free.f k l0 l1 l2 = some r) :
  Calls Tryd.prog 25 #[.slice A0 l0.length c0, .slice A1 l1.length c1, .slice A2 l2.length c2] w fun e w' => e = .returned (.int .i64 r) ∧ Below w.heap.size w w' := by
 have HR0 := Aside0.mk hr0
 have HC0 := Aside0.mk hc0
 clear hr0 hc0
 have HR1 := Aside0.mk hr1
 have HC1 := Aside0.mk hc1
 clear hr1 hc1
 have HR2 := Aside0.mk hr2
 have HC2 := Aside0.mk hc2
 clear hr2 hc2
 have HB := Aside0.mk (Below.refl w.heap.size w)
 have H : (if 0 ≤ (l0.length : Int) then (if ((l0.length : Int) : Int).toNat ≤ 281474976710656 then (stockadelaw05_free.l0 k l0 l1 l2 (List.replicate ((l0.length : Int) : Int).toNat false) 0) else (none)) else (none)) = some r := h
 clear h
 by_cases c4 : 0 ≤ (l0.length : Int)
 ·rw [if_pos c4] at H
  have c4b0 := eq_true c4
  have c4b1 : decide (0 ≤ (l0.length : Int)) = true := decide_eq_true c4
  clear c4
  by_cases c5 : ((l0.length : Int) : Int).toNat ≤ 281474976710656
  ·rw [if_pos c5] at H
   have c5b0 := eq_true c5
   have c5b1 : decide (((l0.length : Int) : Int).toNat ≤ 281474976710656) = true := decide_eq_true c5
   clear c5
   obtain ⟨y568, hy568⟩ : ∃ y_ : List Bool, y_ = (List.replicate ((l0.length : Int) : Int).toNat false) := ⟨_, rfl⟩
   replace H : (stockadelaw05_free.l0 k l0 l1 l2 y568 0) = some r := by first | (rw [hy568]; with_reducible exact H) | (have H2_ := (Option.bind_some _ _).symm.trans H; rw [hy568]; with_reducible exact H2_) | (have H2_ := (Option.bind_some _ _).symm.trans H; with_reducible exact H2_) | with_reducible exact H | (rw [hy568]; exact H) | exact H
   have Ny568 := Aside0.mk hy568
   clear hy568
   have H' := Aside0.mk H
   clear H
   go_enter Tryd.func25, Tryd.ntmps25
   go_wp2_with (first | ((with_reducible refine gate_dst (N := 13) rfl ?_); refine Kd.R_make Kd.bool _ 4 rfl (N := 13) rfl 46 _ _ rfl (l0.length : Int) rfl rfl Tryd.underlying46 (.bool false) 1 info4 rfl (by decide) (by omega) false (ok := fun _ => True) (okp := fun _ => True) rfl (fun _ hk => hk) trivial (of_decide_eq_true (by first | (with_reducible assumption) | assumption)) (Nat.le_trans (Nat.mul_le_mul_right _ (of_decide_eq_true (by first | (with_reducible assumption) | assumption) : (l0.length : Int).toNat ≤ 281474976710656)) (by omega)) (Below.refl _ _) (Nat.le_refl _) ?_; intro v569 w6 ho7 hb hg_ hnew_; clear hg_ hnew_; (first | rw [← Ny568.out] at ho7 | (simp only [Int.reduceToNat] at ho7; rw [← Ny568.out] at ho7)); have HO570 := Aside0.mk (Kd.R_lower ho7 (below_size b_now)); replace HB := sh_b (w := w) hb; clear hb ho7))
   go_loopg [8] k (fun kq v8 w' => ∃ (x7_1 : List Bool) (x8_1 : Int), v8 = .int .i64 x8_1 ∧ Aside0 (stockadelaw05_free.l0 kq l0 l1 l2 x7_1 x8_1 = some r) ∧ Aside0 (kq ≤ k) ∧ Aside0 (Kd.R Kd.bool 4 w' w.heap.size (fun _ => True) v569 x7_1) ∧ Aside0 (Below w.heap.size w w'))
   case atStart => exact ⟨(y568), (0), eq_now, H', ⟨Nat.le_refl _⟩, ⟨by (with_reducible repeat (first | apply Kd.R_alloc | apply Kd.R_drewN | apply Kd.R_drew)); exact HO570.out⟩, ⟨b_now⟩⟩
   case round =>
    clear H'
    try clear c1
    try clear c2
    try clear p2
    try clear c4
    try clear c4b0
    try clear c4b1
    try clear c5
    try clear c5b0
    try clear c5b1
    obtain ⟨x7_1, x8_1, rfl, HA, HK1, HO_7, HB⟩ := hrel
    cases gk with
    | zero => exact absurd HA.out (by simp [stockadelaw05_free.l0])
    | succ k1 =>
     have H := HA.out
     clear HA
     simp only [stockadelaw05_free.l0] at H
     by_cases c8 : x8_1 < (l0.length : Int)
     ·rw [if_pos c8] at H
      have c8b0 : decide (x8_1 < (l0.length : Int)) = true := decide_eq_true c8
      clear c8
      have H' := Aside0.mk H
      clear H
      go_wp2
      go_loopg [9] k1 (fun kq v9 w' => ∃ (x7_2 : List Bool) (x9_2 : Int), v9 = .int .i64 x9_2 ∧ Aside0 (stockadelaw05_free.l1 kq l0 l1 l2 x7_2 x8_1 x9_2 = some r) ∧ Aside0 (kq ≤ k1) ∧ Aside0 (Kd.R Kd.bool 4 w' w.heap.size (fun _ => True) v569 x7_2) ∧ Aside0 (Below w.heap.size w w'))
      case atStart => exact ⟨(x7_1), (0), eq_now, H', ⟨Nat.le_refl _⟩, ⟨by (with_reducible repeat (first | apply Kd.R_alloc | apply Kd.R_drewN | apply Kd.R_drew)); exact HO_7.out⟩, ⟨b_now⟩⟩
      case round =>
       clear H'
       try clear c1
       try clear c2
       try clear p2
       try clear c4
       try clear c4b0
       try clear c4b1
       try clear c5
       try clear c5b0
       try clear c5b1
       try clear c8
       try clear c8b0
       try clear p2
       obtain ⟨x7_2, x9_2, rfl, HA, HK2, HO_7, HB⟩ := hrel
       cases gk with
       | zero => exact absurd HA.out (by simp [stockadelaw05_free.l1])
       | succ k2 =>
        have H := HA.out
        clear HA
        simp only [stockadelaw05_free.l1] at H
        by_cases c9 : 0 ≤ x8_1
        ·rw [if_pos c9] at H
         have c9b0 : decide (0 ≤ x8_1) = true := decide_eq_true c9
         clear c9
         by_cases c10 : x8_1 < (l0.length : Int)
         ·rw [if_pos c10] at H
          have c10b0 : decide (x8_1 < (l0.length : Int)) = true := decide_eq_true c10
          clear c10
          by_cases c11 : x9_2 < ((rd_L8 l0 x8_1).length : Int)
          ·rw [if_pos c11] at H
           have c11b0 : decide (x9_2 < ((rd_L8 l0 x8_1).length : Int)) = true := decide_eq_true c11
           clear c11
           by_cases c12 : x8_1 < (l1.length : Int)
           ·rw [if_pos c12] at H
            have c12b0 : decide (x8_1 < (l1.length : Int)) = true := decide_eq_true c12
            clear c12
            obtain ⟨bq13, hbq13⟩ : ∃ b_ : Bool, b_ = (rdOf false l1 x8_1) := ⟨_, rfl⟩
            replace H : (if bq13 = true then (if x8_1 < (l2.length : Int) then (if rdOf false l2 x8_1 = true then (stockadelaw05_free.l1 k2 l0 l1 l2 x7_2 x8_1 (wrap64 (x9_2 + 1))) else (if 0 ≤ x9_2 then (if 0 ≤ (rd (rd_L8 l0 x8_1) x9_2) then (if (rd (rd_L8 l0 x8_1) x9_2) < (x7_2.length : Int) then (stockadelaw05_free.l1 k2 l0 l1 l2 (x7_2.set ((rd (rd_L8 l0 x8_1) x9_2) : Int).toNat true) x8_1 (wrap64 (x9_2 + 1))) else (none)) else (none)) else (none))) else (none)) else (stockadelaw05_free.l1 k2 l0 l1 l2 x7_2 x8_1 (wrap64 (x9_2 + 1)))) = some r := by rw [← hbq13] at H; exact H
            have Nbq13 := Aside0.mk hbq13
            clear hbq13
            by_cases c14 : bq13 = true
            ·subst c14
             replace H := sh_t H
             by_cases c15 : x8_1 < (l2.length : Int)
             ·rw [if_pos c15] at H
              have c15b0 : decide (x8_1 < (l2.length : Int)) = true := decide_eq_true c15
              clear c15
              obtain ⟨bq16, hbq16⟩ : ∃ b_ : Bool, b_ = (rdOf false l2 x8_1) := ⟨_, rfl⟩
              replace H : (if bq16 = true then (stockadelaw05_free.l1 k2 l0 l1 l2 x7_2 x8_1 (wrap64 (x9_2 + 1))) else (if 0 ≤ x9_2 then (if 0 ≤ (rd (rd_L8 l0 x8_1) x9_2) then (if (rd (rd_L8 l0 x8_1) x9_2) < (x7_2.length : Int) then (stockadelaw05_free.l1 k2 l0 l1 l2 (x7_2.set ((rd (rd_L8 l0 x8_1) x9_2) : Int).toNat true) x8_1 (wrap64 (x9_2 + 1))) else (none)) else (none)) else (none))) = some r := by rw [← hbq16] at H; exact H
              have Nbq16 := Aside0.mk hbq16
              clear hbq16
              by_cases c17 : bq16 = true
              ·subst c17
               replace H := sh_t H
               have H' := Aside0.mk H
               clear H
               have p571 : 0 ≤ (x8_1 : Int) := of_decide_eq_true (by first | (with_reducible assumption) | assumption)
               have q571 : x8_1 < (l0.length : Int) := of_decide_eq_true (by first | (with_reducible assumption) | assumption)
               obtain ⟨ad571, A571_0, c571_0, e571, hx571_0, hl571_0, hi571_0⟩ := at_L8 HR0.out x8_1 p571 q571
               cases e571
               replace hx571_0 := (HB.out.cell (World.block_lt_of_cell? w _ hx571_0)).trans hx571_0
               have HR571_0 := Aside0.mk hi571_0
               have HC571_0 := Aside0.mk hl571_0
               clear hi571_0 hl571_0
               replace p571 := eq_true p571
               replace q571 := eq_true q571
               have p572 : 0 ≤ (x8_1 : Int) := of_decide_eq_true (by first | (with_reducible assumption) | assumption)
               have q572 : x8_1 < (l1.length : Int) := of_decide_eq_true (by first | (with_reducible assumption) | assumption)
               obtain ⟨ad572, e572, hx572_0⟩ := Kd.at_bool HR1.out x8_1 p572 q572
               (try rw [← Nbq13.out] at hx572_0)
               (try rw [← Nbq16.out] at hx572_0)
               cases e572
               replace hx572_0 := (HB.out.cell (World.block_lt_of_cell? w _ hx572_0)).trans hx572_0
               replace p572 := eq_true p572
               replace q572 := eq_true q572
               have p573 : 0 ≤ (x8_1 : Int) := of_decide_eq_true (by first | (with_reducible assumption) | assumption)
               have q573 : x8_1 < (l2.length : Int) := of_decide_eq_true (by first | (with_reducible assumption) | assumption)
               obtain ⟨ad573, e573, hx573_0⟩ := Kd.at_bool HR2.out x8_1 p573 q573
               (try rw [← Nbq13.out] at hx573_0)
               (try rw [← Nbq16.out] at hx573_0)
               cases e573
               replace hx573_0 := (HB.out.cell (World.block_lt_of_cell? w _ hx573_0)).trans hx573_0
               replace p573 := eq_true p573
               replace q573 := eq_true q573
               go_wp2
               go_roundg k2
               case measure => have := HK1.out; have := HK2.out; omega
               case rel => exact ⟨(x7_2), (wrap64 (x9_2 + 1)), eq_now, H', ⟨by have := HK1.out; have := HK2.out; omega⟩, ⟨by (with_reducible repeat (first | apply Kd.R_alloc | apply Kd.R_drewN | apply Kd.R_drew)); exact HO_7.out⟩, ⟨b_now⟩⟩
              ·replace c17 := Bool.eq_false_iff.mpr c17
               subst c17
               replace H := sh_f H
               by_cases c18 : 0 ≤ x9_2
               ·rw [if_pos c18] at H
                have c18b0 : decide (0 ≤ x9_2) = true := decide_eq_true c18
                clear c18
                by_cases c19 : 0 ≤ (rd (rd_L8 l0 x8_1) x9_2)
                ·rw [if_pos c19] at H
                 have c19b0 : decide (0 ≤ (rd (rd_L8 l0 x8_1) x9_2)) = true := decide_eq_true c19
                 clear c19
                 by_cases c20 : (rd (rd_L8 l0 x8_1) x9_2) < (x7_2.length : Int)
                 ·rw [if_pos c20] at H
                  have c20b0 : decide ((rd (rd_L8 l0 x8_1) x9_2) < (x7_2.length : Int)) = true := decide_eq_true c20
                  clear c20
                  obtain ⟨y576, hy576⟩ : ∃ y_ : List Bool, y_ = (x7_2.set ((rd (rd_L8 l0 x8_1) x9_2) : Int).toNat true) := ⟨_, rfl⟩
                  replace H : (stockadelaw05_free.l1 k2 l0 l1 l2 y576 x8_1 (wrap64 (x9_2 + 1))) = some r := by first | (rw [hy576]; with_reducible exact H) | (have H2_ := (Option.bind_some _ _).symm.trans H; rw [hy576]; with_reducible exact H2_) | (have H2_ := (Option.bind_some _ _).symm.trans H; with_reducible exact H2_) | with_reducible exact H | (rw [hy576]; exact H) | exact H
                  have Ny576 := Aside0.mk hy576
                  clear hy576
                  have H' := Aside0.mk H
                  clear H
                  have p571 : 0 ≤ (x8_1 : Int) := of_decide_eq_true (by first | (with_reducible assumption) | assumption)
                  have q571 : x8_1 < (l0.length : Int) := of_decide_eq_true (by first | (with_reducible assumption) | assumption)
                  obtain ⟨ad571, A571_0, c571_0, e571, hx571_0, hl571_0, hi571_0⟩ := at_L8 HR0.out x8_1 p571 q571
                  cases e571
                  replace hx571_0 := (HB.out.cell (World.block_lt_of_cell? w _ hx571_0)).trans hx571_0
                  have HR571_0 := Aside0.mk hi571_0
                  have HC571_0 := Aside0.mk hl571_0
                  clear hi571_0 hl571_0
                  replace p571 := eq_true p571
                  replace q571 := eq_true q571
                  have p572 : 0 ≤ (x8_1 : Int) := of_decide_eq_true (by first | (with_reducible assumption) | assumption)
                  have q572 : x8_1 < (l1.length : Int) := of_decide_eq_true (by first | (with_reducible assumption) | assumption)
                  obtain ⟨ad572, e572, hx572_0⟩ := Kd.at_bool HR1.out x8_1 p572 q572
                  (try rw [← Nbq13.out] at hx572_0)
                  (try rw [← Nbq16.out] at hx572_0)
                  cases e572
                  replace hx572_0 := (HB.out.cell (World.block_lt_of_cell? w _ hx572_0)).trans hx572_0
                  replace p572 := eq_true p572
                  replace q572 := eq_true q572
                  have p573 : 0 ≤ (x8_1 : Int) := of_decide_eq_true (by first | (with_reducible assumption) | assumption)
                  have q573 : x8_1 < (l2.length : Int) := of_decide_eq_true (by first | (with_reducible assumption) | assumption)
                  obtain ⟨ad573, e573, hx573_0⟩ := Kd.at_bool HR2.out x8_1 p573 q573
                  (try rw [← Nbq13.out] at hx573_0)
                  (try rw [← Nbq16.out] at hx573_0)
                  cases e573
                  replace hx573_0 := (HB.out.cell (World.block_lt_of_cell? w _ hx573_0)).trans hx573_0
                  replace p573 := eq_true p573
                  replace q573 := eq_true q573
                  have p574 : 0 ≤ (x8_1 : Int) := of_decide_eq_true (by first | (with_reducible assumption) | assumption)
                  have q574 : x8_1 < (l0.length : Int) := of_decide_eq_true (by first | (with_reducible assumption) | assumption)
                  obtain ⟨ad574, A574_0, c574_0, e574, hx574_0, hl574_0, hi574_0⟩ := at_L8 HR0.out x8_1 p574 q574
                  obtain rfl : ad571 = ad574 := (by injection e574)
                  replace hx574_0 := (HB.out.cell (World.block_lt_of_cell? w _ hx574_0)).trans hx574_0
                  have HR574_0 := Aside0.mk hi574_0
                  have HC574_0 := Aside0.mk hl574_0
                  clear hi574_0 hl574_0
                  replace p574 := eq_true p574
                  replace q574 := eq_true q574
                  have ea_ := Option.some.inj (hx571_0.symm.trans hx574_0)
                  injection ea_ with ea_ en_ ec_
                  subst ea_
                  subst ec_
                  clear en_
                  have p575 : 0 ≤ (x9_2 : Int) := of_decide_eq_true (by first | (with_reducible assumption) | assumption)
                  have q575 : x9_2 < ((rd_L8 l0 x8_1).length : Int) := of_decide_eq_true (by first | (with_reducible assumption) | assumption)
                  obtain ⟨ad575, e575, hx575_0⟩ := Kd.at_int HR574_0.out x9_2 p575 q575
                  cases e575
                  replace hx575_0 := (HB.out.cell (World.block_lt_of_cell? w _ hx575_0)).trans hx575_0
                  replace p575 := eq_true p575
                  replace q575 := eq_true q575
                  have p21 : 0 ≤ ((rd (rd_L8 l0 x8_1) x9_2) : Int) := of_decide_eq_true (by first | (with_reducible assumption) | assumption)
                  have q21 : ((rd (rd_L8 l0 x8_1) x9_2) : Int) < ((x7_2.length : Int) : Int) := of_decide_eq_true (by first | (with_reducible assumption) | assumption)
                  obtain ⟨go21, co21, eo21, gb21, gl21, cl21, HG21⟩ := Kd.R_form HO_7.out (by omega)
                  (first | cases eo21 | (injection eo21 with ea_ en_ ec_; (first | subst ea_ | (injection ea_ with ea_; subst ea_)); subst ec_; clear en_))
                  have GB21 := Aside0.mk gb21
                  have GG21 := Aside0.mk HG21
                  clear gb21 gl21 HG21
                  obtain ⟨hx21_0, hf21_0⟩ := Kd.R_celln false HO_7.out ((rd (rd_L8 l0 x8_1) x9_2) : Int) p21 q21
                  replace p21 := eq_true p21
                  replace q21 := eq_true q21
                  have HP22 := Kd.R_putg HO_7.out ((rd (rd_L8 l0 x8_1) x9_2) : Int) true
                  go_wp2_with (first | ((with_reducible refine gate_store (t := 4) (p := 48) rfl ?_); refine store_event (t := 4) (p := 48) (v := ?vo_w23) (w1 := (wr.setCell ⟨go21, ((rd (rd_L8 l0 x8_1) x9_2) : Int).toNat, none⟩ (.bool true))) ?hg ?ho ?hn ?hr ?_; (case ho => rfl); (case hg => rfl); (case hn => rfl); (case hr => first | (go_simp; done) | (go_simp; rfl)); intro w23 hw; have hg : wr.grownBy w23 (some go21) := (by rw [hw]; exact HP22.2); have hp_ : Kd.R Kd.bool 4 w23 w.heap.size (fun _ => True) (.slice (some ⟨go21, 0, none⟩) x7_2.length co21) y576 := (by rw [hw, Ny576.out]; exact HP22.1); clear HP22; replace HO_7 := Aside0.mk (hp_); replace HB := Aside0.mk ((by rw [hw]; exact below_set (HB.out) GB21.out : Below w.heap.size w w23)); clear hg hw hp_))
                  go_roundg k2
                  case measure => have := HK1.out; have := HK2.out; omega
                  case rel => exact ⟨(y576), (wrap64 (x9_2 + 1)), eq_now, H', ⟨by have := HK1.out; have := HK2.out; omega⟩, ⟨by (with_reducible repeat (first | apply Kd.R_alloc | apply Kd.R_drewN | apply Kd.R_drew)); exact HO_7.out⟩, ⟨b_now⟩⟩
                 ·rw [if_neg c20] at H
                  exact absurd H (by simp)
                ·rw [if_neg c19] at H
                 exact absurd H (by simp)
               ·rw [if_neg c18] at H
                exact absurd H (by simp)
             ·rw [if_neg c15] at H
              exact absurd H (by simp)
            ·replace c14 := Bool.eq_false_iff.mpr c14
             subst c14
             replace H := sh_f H
             have H' := Aside0.mk H
             clear H
             have p571 : 0 ≤ (x8_1 : Int) := of_decide_eq_true (by first | (with_reducible assumption) | assumption)
             have q571 : x8_1 < (l0.length : Int) := of_decide_eq_true (by first | (with_reducible assumption) | assumption)
             obtain ⟨ad571, A571_0, c571_0, e571, hx571_0, hl571_0, hi571_0⟩ := at_L8 HR0.out x8_1 p571 q571
             cases e571
             replace hx571_0 := (HB.out.cell (World.block_lt_of_cell? w _ hx571_0)).trans hx571_0
             have HR571_0 := Aside0.mk hi571_0
             have HC571_0 := Aside0.mk hl571_0
             clear hi571_0 hl571_0
             replace p571 := eq_true p571
             replace q571 := eq_true q571
             have p572 : 0 ≤ (x8_1 : Int) := of_decide_eq_true (by first | (with_reducible assumption) | assumption)
             have q572 : x8_1 < (l1.length : Int) := of_decide_eq_true (by first | (with_reducible assumption) | assumption)
             obtain ⟨ad572, e572, hx572_0⟩ := Kd.at_bool HR1.out x8_1 p572 q572
             (try rw [← Nbq13.out] at hx572_0)
             cases e572
             replace hx572_0 := (HB.out.cell (World.block_lt_of_cell? w _ hx572_0)).trans hx572_0
             replace p572 := eq_true p572
             replace q572 := eq_true q572
             go_wp2
             go_roundg k2
             case measure => have := HK1.out; have := HK2.out; omega
             case rel => exact ⟨(x7_2), (wrap64 (x9_2 + 1)), eq_now, H', ⟨by have := HK1.out; have := HK2.out; omega⟩, ⟨by (with_reducible repeat (first | apply Kd.R_alloc | apply Kd.R_drewN | apply Kd.R_drew)); exact HO_7.out⟩, ⟨b_now⟩⟩
           ·rw [if_neg c12] at H
            exact absurd H (by simp)
          ·rw [if_neg c11] at H
           have c11b0 : decide (x9_2 < ((rd_L8 l0 x8_1).length : Int)) = false := decide_eq_false c11
           clear c11
           have H' := Aside0.mk H
           clear H
           have p571 : 0 ≤ (x8_1 : Int) := of_decide_eq_true (by first | (with_reducible assumption) | assumption)
           have q571 : x8_1 < (l0.length : Int) := of_decide_eq_true (by first | (with_reducible assumption) | assumption)
           obtain ⟨ad571, A571_0, c571_0, e571, hx571_0, hl571_0, hi571_0⟩ := at_L8 HR0.out x8_1 p571 q571
           cases e571
           replace hx571_0 := (HB.out.cell (World.block_lt_of_cell? w _ hx571_0)).trans hx571_0
           have HR571_0 := Aside0.mk hi571_0
           have HC571_0 := Aside0.mk hl571_0
           clear hi571_0 hl571_0
           replace p571 := eq_true p571
           replace q571 := eq_true q571
           go_wp2
           go_roundg k2
           case measure => have := HK1.out; have := HK2.out; omega
           case rel => exact ⟨(x7_2), (wrap64 (x8_1 + 1)), eq_now, H', ⟨by have := HK1.out; have := HK2.out; omega⟩, ⟨by (with_reducible repeat (first | apply Kd.R_alloc | apply Kd.R_drewN | apply Kd.R_drew)); exact HO_7.out⟩, ⟨b_now⟩⟩
         ·rw [if_neg c10] at H
          exact absurd H (by simp)
        ·rw [if_neg c9] at H
         exact absurd H (by simp)
     ·rw [if_neg c8] at H
      have c8b0 : decide (x8_1 < (l0.length : Int)) = false := decide_eq_false c8
      clear c8
      have H' := Aside0.mk H
      clear H
      go_wp2
      go_loopg [10] k1 (fun kq v10 w' => ∃ (x10_2 : Int), v10 = .int .i64 x10_2 ∧ Aside0 (stockadelaw05_free.l2 kq l0 l1 l2 x7_1 x10_2 = some r) ∧ Aside0 (kq ≤ k1) ∧ Aside0 (Kd.R Kd.bool 4 w' w.heap.size (fun _ => True) v569 x7_1) ∧ Aside0 (Below w.heap.size w w'))
      case atStart => exact ⟨(0), eq_now, H', ⟨Nat.le_refl _⟩, ⟨by (with_reducible repeat (first | apply Kd.R_alloc | apply Kd.R_drewN | apply Kd.R_drew)); exact HO_7.out⟩, ⟨b_now⟩⟩
      case round =>
       clear H'
       try clear c1
       try clear q1
       try clear c2
       try clear p2
       try clear q2
       try clear hx2
       try clear c4
       try clear c4b0
       try clear c4b1
       try clear c5
       try clear c5b0
       try clear c5b1
       try clear p5
       try clear q5
       try clear hx5
       try clear p6
       try clear c8
       try clear c8b0
       try clear c9
       try clear c9b0
       try clear c10
       try clear c10b0
       try clear c11
       try clear c11b0
       try clear c12
       try clear c12b0
       try clear q13
       try clear c14
       try clear c15
       try clear c15b0
       try clear q16
       try clear c17
       try clear c18
       try clear c18b0
       try clear c19
       try clear c19b0
       try clear c20
       try clear c20b0
       try clear p21
       try clear q21
       try clear hx21
       try clear hf21
       try clear hx21_0
       try clear hx571_0
       try clear hx572_0
       try clear hx573_0
       try clear hx574_0
       try clear hx575_0
       try clear p2
       try clear p21
       try clear p571
       try clear p572
       try clear p573
       try clear p574
       try clear p575
       try clear q21
       try clear q571
       try clear q572
       try clear q573
       try clear q574
       try clear q575
       obtain ⟨x10_2, rfl, HA, HK2, HO_7, HB⟩ := hrel
       cases gk with
       | zero => exact absurd HA.out (by simp [stockadelaw05_free.l2])
       | succ k2 =>
        have H := HA.out
        clear HA
        simp only [stockadelaw05_free.l2] at H
        by_cases c24 : x10_2 < (l0.length : Int)
        ·rw [if_pos c24] at H
         have c24b0 : decide (x10_2 < (l0.length : Int)) = true := decide_eq_true c24
         clear c24
         by_cases c25 : 0 ≤ x10_2
         ·rw [if_pos c25] at H
          have c25b0 : decide (0 ≤ x10_2) = true := decide_eq_true c25
          clear c25
          by_cases c26 : x10_2 < (l1.length : Int)
          ·rw [if_pos c26] at H
           have c26b0 : decide (x10_2 < (l1.length : Int)) = true := decide_eq_true c26
           clear c26
           obtain ⟨bq27, hbq27⟩ : ∃ b_ : Bool, b_ = (rdOf false l1 x10_2) := ⟨_, rfl⟩
           replace H : (if bq27 = true then (if x10_2 < (l2.length : Int) then (if rdOf false l2 x10_2 = true then (stockadelaw05_free.l2 k2 l0 l1 l2 x7_1 (wrap64 (x10_2 + 1))) else (if x10_2 < (x7_1.length : Int) then (if rdOf false x7_1 x10_2 = true then (stockadelaw05_free.l2 k2 l0 l1 l2 x7_1 (wrap64 (x10_2 + 1))) else (some x10_2)) else (none))) else (none)) else (stockadelaw05_free.l2 k2 l0 l1 l2 x7_1 (wrap64 (x10_2 + 1)))) = some r := by rw [← hbq27] at H; exact H
           have Nbq27 := Aside0.mk hbq27
           clear hbq27
           by_cases c28 : bq27 = true
           ·subst c28
            replace H := sh_t H
            by_cases c29 : x10_2 < (l2.length : Int)
            ·rw [if_pos c29] at H
             have c29b0 : decide (x10_2 < (l2.length : Int)) = true := decide_eq_true c29
             clear c29
             obtain ⟨bq30, hbq30⟩ : ∃ b_ : Bool, b_ = (rdOf false l2 x10_2) := ⟨_, rfl⟩
             replace H : (if bq30 = true then (stockadelaw05_free.l2 k2 l0 l1 l2 x7_1 (wrap64 (x10_2 + 1))) else (if x10_2 < (x7_1.length : Int) then (if rdOf false x7_1 x10_2 = true then (stockadelaw05_free.l2 k2 l0 l1 l2 x7_1 (wrap64 (x10_2 + 1))) else (some x10_2)) else (none))) = some r := by rw [← hbq30] at H; exact H
             have Nbq30 := Aside0.mk hbq30
             clear hbq30
             by_cases c31 : bq30 = true
             ·subst c31
              replace H := sh_t H
              have H' := Aside0.mk H
              clear H
              have p577 : 0 ≤ (x10_2 : Int) := of_decide_eq_true (by first | (with_reducible assumption) | assumption)
              have q577 : x10_2 < (l1.length : Int) := of_decide_eq_true (by first | (with_reducible assumption) | assumption)
              obtain ⟨ad577, e577, hx577_0⟩ := Kd.at_bool HR1.out x10_2 p577 q577
              (try rw [← Nbq27.out] at hx577_0)
              (try rw [← Nbq30.out] at hx577_0)
              cases e577
              replace hx577_0 := (HB.out.cell (World.block_lt_of_cell? w _ hx577_0)).trans hx577_0
              replace p577 := eq_true p577
              replace q577 := eq_true q577
              have p578 : 0 ≤ (x10_2 : Int) := of_decide_eq_true (by first | (with_reducible assumption) | assumption)
              have q578 : x10_2 < (l2.length : Int) := of_decide_eq_true (by first | (with_reducible assumption) | assumption)
              obtain ⟨ad578, e578, hx578_0⟩ := Kd.at_bool HR2.out x10_2 p578 q578
              (try rw [← Nbq27.out] at hx578_0)
              (try rw [← Nbq30.out] at hx578_0)
              cases e578
              replace hx578_0 := (HB.out.cell (World.block_lt_of_cell? w _ hx578_0)).trans hx578_0
              replace p578 := eq_true p578
              replace q578 := eq_true q578
              go_wp2
              go_roundg k2
              case measure => have := HK1.out; have := HK2.out; omega
              case rel => exact ⟨(wrap64 (x10_2 + 1)), eq_now, H', ⟨by have := HK1.out; have := HK2.out; omega⟩, ⟨by (with_reducible repeat (first | apply Kd.R_alloc | apply Kd.R_drewN | apply Kd.R_drew)); exact HO_7.out⟩, ⟨b_now⟩⟩
             ·replace c31 := Bool.eq_false_iff.mpr c31
              subst c31
              replace H := sh_f H
              by_cases c32 : x10_2 < (x7_1.length : Int)
              ·rw [if_pos c32] at H
               have c32b0 : decide (x10_2 < (x7_1.length : Int)) = true := decide_eq_true c32
               clear c32
               obtain ⟨bq33, hbq33⟩ : ∃ b_ : Bool, b_ = (rdOf false x7_1 x10_2) := ⟨_, rfl⟩
               replace H : (if bq33 = true then (stockadelaw05_free.l2 k2 l0 l1 l2 x7_1 (wrap64 (x10_2 + 1))) else (some x10_2)) = some r := by rw [← hbq33] at H; exact H
               have Nbq33 := Aside0.mk hbq33
               clear hbq33
               by_cases c34 : bq33 = true
               ·subst c34
                replace H := sh_t H
                have H' := Aside0.mk H
                clear H
                have p577 : 0 ≤ (x10_2 : Int) := of_decide_eq_true (by first | (with_reducible assumption) | assumption)
                have q577 : x10_2 < (l1.length : Int) := of_decide_eq_true (by first | (with_reducible assumption) | assumption)
                obtain ⟨ad577, e577, hx577_0⟩ := Kd.at_bool HR1.out x10_2 p577 q577
                (try rw [← Nbq27.out] at hx577_0)
                (try rw [← Nbq30.out] at hx577_0)
                (try rw [← Nbq33.out] at hx577_0)
                cases e577
                replace hx577_0 := (HB.out.cell (World.block_lt_of_cell? w _ hx577_0)).trans hx577_0
                replace p577 := eq_true p577
                replace q577 := eq_true q577
                have p578 : 0 ≤ (x10_2 : Int) := of_decide_eq_true (by first | (with_reducible assumption) | assumption)
                have q578 : x10_2 < (l2.length : Int) := of_decide_eq_true (by first | (with_reducible assumption) | assumption)
                obtain ⟨ad578, e578, hx578_0⟩ := Kd.at_bool HR2.out x10_2 p578 q578
                (try rw [← Nbq27.out] at hx578_0)
                (try rw [← Nbq30.out] at hx578_0)
                (try rw [← Nbq33.out] at hx578_0)
                cases e578
                replace hx578_0 := (HB.out.cell (World.block_lt_of_cell? w _ hx578_0)).trans hx578_0
                replace p578 := eq_true p578
                replace q578 := eq_true q578
                obtain ⟨Ao35, co35, eo35⟩ := Kd.R_slice HO_7.out
                subst eo35
                have p579 : 0 ≤ (x10_2 : Int) := of_decide_eq_true (by first | (with_reducible assumption) | assumption)
                have q579 : x10_2 < (x7_1.length : Int) := of_decide_eq_true (by first | (with_reducible assumption) | assumption)
                obtain ⟨ad579, e579, hx579_0⟩ := Kd.at_bool (Kd.R_reads' HO_7.out).2.2 x10_2 p579 q579
                (try rw [← Nbq27.out] at hx579_0)
                (try rw [← Nbq30.out] at hx579_0)
                (try rw [← Nbq33.out] at hx579_0)
                cases e579
                replace p579 := eq_true p579
                replace q579 := eq_true q579
                go_wp2
                go_roundg k2
                case measure => have := HK1.out; have := HK2.out; omega
                case rel => exact ⟨(wrap64 (x10_2 + 1)), eq_now, H', ⟨by have := HK1.out; have := HK2.out; omega⟩, ⟨by (with_reducible repeat (first | apply Kd.R_alloc | apply Kd.R_drewN | apply Kd.R_drew)); exact HO_7.out⟩, ⟨b_now⟩⟩
               ·replace c34 := Bool.eq_false_iff.mpr c34
                subst c34
                replace H := sh_f H
                obtain rfl := Option.some.inj H
                have p577 : 0 ≤ (x10_2 : Int) := of_decide_eq_true (by first | (with_reducible assumption) | assumption)
                have q577 : x10_2 < (l1.length : Int) := of_decide_eq_true (by first | (with_reducible assumption) | assumption)
                obtain ⟨ad577, e577, hx577_0⟩ := Kd.at_bool HR1.out x10_2 p577 q577
                (try rw [← Nbq27.out] at hx577_0)
                (try rw [← Nbq30.out] at hx577_0)
                (try rw [← Nbq33.out] at hx577_0)
                cases e577
                replace hx577_0 := (HB.out.cell (World.block_lt_of_cell? w _ hx577_0)).trans hx577_0
                replace p577 := eq_true p577
                replace q577 := eq_true q577
                have p578 : 0 ≤ (x10_2 : Int) := of_decide_eq_true (by first | (with_reducible assumption) | assumption)
                have q578 : x10_2 < (l2.length : Int) := of_decide_eq_true (by first | (with_reducible assumption) | assumption)
                obtain ⟨ad578, e578, hx578_0⟩ := Kd.at_bool HR2.out x10_2 p578 q578
                (try rw [← Nbq27.out] at hx578_0)
                (try rw [← Nbq30.out] at hx578_0)
                (try rw [← Nbq33.out] at hx578_0)
                cases e578
                replace hx578_0 := (HB.out.cell (World.block_lt_of_cell? w _ hx578_0)).trans hx578_0
                replace p578 := eq_true p578
                replace q578 := eq_true q578
                obtain ⟨Ao36, co36, eo36⟩ := Kd.R_slice HO_7.out
                subst eo36
                have p579 : 0 ≤ (x10_2 : Int) := of_decide_eq_true (by first | (with_reducible assumption) | assumption)
                have q579 : x10_2 < (x7_1.length : Int) := of_decide_eq_true (by first | (with_reducible assumption) | assumption)
                obtain ⟨ad579, e579, hx579_0⟩ := Kd.at_bool (Kd.R_reads' HO_7.out).2.2 x10_2 p579 q579
                (try rw [← Nbq27.out] at hx579_0)
                (try rw [← Nbq30.out] at hx579_0)
                (try rw [← Nbq33.out] at hx579_0)
                cases e579
                replace p579 := eq_true p579
                replace q579 := eq_true q579
                go_wp2
                go_ret
                exact ⟨ret_now, b_now⟩
              ·rw [if_neg c32] at H
               exact absurd H (by simp)
            ·rw [if_neg c29] at H
             exact absurd H (by simp)
           ·replace c28 := Bool.eq_false_iff.mpr c28
            subst c28
            replace H := sh_f H
            have H' := Aside0.mk H
            clear H
            have p577 : 0 ≤ (x10_2 : Int) := of_decide_eq_true (by first | (with_reducible assumption) | assumption)
            have q577 : x10_2 < (l1.length : Int) := of_decide_eq_true (by first | (with_reducible assumption) | assumption)
            obtain ⟨ad577, e577, hx577_0⟩ := Kd.at_bool HR1.out x10_2 p577 q577
            (try rw [← Nbq27.out] at hx577_0)
            cases e577
            replace hx577_0 := (HB.out.cell (World.block_lt_of_cell? w _ hx577_0)).trans hx577_0
            replace p577 := eq_true p577
            replace q577 := eq_true q577
            go_wp2
            go_roundg k2
            case measure => have := HK1.out; have := HK2.out; omega
            case rel => exact ⟨(wrap64 (x10_2 + 1)), eq_now, H', ⟨by have := HK1.out; have := HK2.out; omega⟩, ⟨by (with_reducible repeat (first | apply Kd.R_alloc | apply Kd.R_drewN | apply Kd.R_drew)); exact HO_7.out⟩, ⟨b_now⟩⟩
          ·rw [if_neg c26] at H
           exact absurd H (by simp)
         ·rw [if_neg c25] at H
          exact absurd H (by simp)
        ·rw [if_neg c24] at H
         have c24b0 : decide (x10_2 < (l0.length : Int)) = false := decide_eq_false c24
         clear c24
         obtain rfl := Option.some.inj H
         go_wp2
         go_ret
         exact ⟨ret_now, b_now⟩
  ·rw [if_neg c5] at H
   exact absurd H (by simp)
 ·rw [if_neg c4] at H
  exact absurd H (by simp)

end Go.Proofs.YtkjcjlegokdpdaaDoor.P
