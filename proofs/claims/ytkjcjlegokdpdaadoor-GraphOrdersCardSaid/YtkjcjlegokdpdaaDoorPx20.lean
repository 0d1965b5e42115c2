/- Made by this session's driver over the kit's printer: for each Go function a Lean function with the same answers, and a proof that the Go call comes to these answers; no conditions but the ones each theorem names. -/
import Derived.Test.YtkjcjlegokdpdaaDoorPx0
import Derived.Test.YtkjcjlegokdpdaaDoorPx19
namespace Go.Proofs.YtkjcjlegokdpdaaDoor.P
open Go.RowKit Go.Proofs.YtkjcjlegokdpdaaDoorW.PrintWords Go.Proofs.YtkjcjlegokdpdaaDoorW.PrintLast Go.Proofs.YtkjcjlegokdpdaaDoorW.PrintMore
attribute [local go_sem] max2_int min2_int max_two min_two max_three min_three max_four min_four   -- for this text's walks alone
set_option linter.unusedVariables false
set_option linter.unusedSimpArgs false

/-! ### stockaderef05_Order: function 19 -/
mutual
def stockaderef05_Order.l0 : Nat → List (List Int) → List Bool → List Int → Int → Option (List Int × Int)
 | 0, _, _, _, _ => none
 | k + 1, x0, x4, x5, x6 => if x6 < (x0.length : Int) then (if 0 ≤ (x0.length : Int) then (if ((x0.length : Int) : Int).toNat ≤ 281474976710656 then (stockaderef05_Order.l1 k x0 x4 x5 x6 (List.replicate ((x0.length : Int) : Int).toNat false) false 0) else (none)) else (none)) else (some (x5, 0))
def stockaderef05_Order.l1 : Nat → List (List Int) → List Bool → List Int → Int → List Bool → Bool → Int → Option (List Int × Int)
 | 0, _, _, _, _, _, _, _ => none
 | k + 1, x0, x4, x5, x6, x7, x8, x9 => if x9 < (x0.length : Int) then (stockaderef05_Order.l2 k x0 x4 x5 x6 x7 x8 x9 0) else (if x8 = true then (stockaderef05_Order.l3 k x0 x4 x5 x6 x7 0) else (some (x5, 0)))
def stockaderef05_Order.l2 : Nat → List (List Int) → List Bool → List Int → Int → List Bool → Bool → Int → Int → Option (List Int × Int)
 | 0, _, _, _, _, _, _, _, _ => none
 | k + 1, x0, x4, x5, x6, x7, x8, x9, x10 => if 0 ≤ x9 then (if x9 < (x0.length : Int) then (if x10 < ((rd_L8 x0 x9).length : Int) then (if x9 < (x4.length : Int) then (if rdOf false x4 x9 = true then (if 0 ≤ x10 then (if 0 ≤ (rd (rd_L8 x0 x9) x10) then (if (rd (rd_L8 x0 x9) x10) < (x7.length : Int) then (stockaderef05_Order.l2 k x0 x4 x5 x6 (x7.set ((rd (rd_L8 x0 x9) x10) : Int).toNat true) x8 x9 (wrap64 (x10 + 1))) else (none)) else (none)) else (none)) else (if x8 = true then (stockaderef05_Order.l1 k x0 x4 x5 x6 x7 true (wrap64 (x9 + 1))) else (stockaderef05_Order.l1 k x0 x4 x5 x6 x7 (rdOf false x4 x9) (wrap64 (x9 + 1))))) else (none)) else (if x8 = true then (stockaderef05_Order.l1 k x0 x4 x5 x6 x7 true (wrap64 (x9 + 1))) else (if x9 < (x4.length : Int) then (stockaderef05_Order.l1 k x0 x4 x5 x6 x7 (rdOf false x4 x9) (wrap64 (x9 + 1))) else (none)))) else (none)) else (none)
def stockaderef05_Order.l3 : Nat → List (List Int) → List Bool → List Int → Int → List Bool → Int → Option (List Int × Int)
 | 0, _, _, _, _, _, _ => none
 | k + 1, x0, x4, x5, x6, x7, x11 => if x11 < (x0.length : Int) then (if 0 ≤ x11 then (if x11 < (x4.length : Int) then (if rdOf false x4 x11 = true then (if x11 < (x7.length : Int) then (if rdOf false x7 x11 = true then (stockaderef05_Order.l3 k x0 x4 x5 x6 x7 (wrap64 (x11 + 1))) else (if x11 = (x0.length : Int) then (some (([] : List Int), 28)) else (if x5.length < 17592186044416 then (stockaderef05_Order.l0 k x0 (x4.set (x11 : Int).toNat false) (x5 ++ [x11]) (wrap64 (x6 + 1))) else (none)))) else (none)) else (stockaderef05_Order.l3 k x0 x4 x5 x6 x7 (wrap64 (x11 + 1)))) else (none)) else (none)) else (if x11 = (x0.length : Int) then (some (([] : List Int), 28)) else (if 0 ≤ x11 then (if x11 < (x4.length : Int) then (if x5.length < 17592186044416 then (stockaderef05_Order.l0 k x0 (x4.set (x11 : Int).toNat false) (x5 ++ [x11]) (wrap64 (x6 + 1))) else (none)) else (none)) else (none)))
end
def stockaderef05_Order.f (k : Nat) (l0 : List (List Int)) : Option (List Int × Int) := (stockaderef05_Reached.f k l0).bind fun t443 => (stockaderef05_Order.l0 k l0 t443 ([] : List Int) 0)
theorem stockaderef05_Order.mono_l : ∀ k, (∀ y0 y1 y2 y3, LeO (stockaderef05_Order.l0 k y0 y1 y2 y3) (stockaderef05_Order.l0 (k + 1) y0 y1 y2 y3)) ∧ (∀ y0 y1 y2 y3 y4 y5 y6, LeO (stockaderef05_Order.l1 k y0 y1 y2 y3 y4 y5 y6) (stockaderef05_Order.l1 (k + 1) y0 y1 y2 y3 y4 y5 y6)) ∧ (∀ y0 y1 y2 y3 y4 y5 y6 y7, LeO (stockaderef05_Order.l2 k y0 y1 y2 y3 y4 y5 y6 y7) (stockaderef05_Order.l2 (k + 1) y0 y1 y2 y3 y4 y5 y6 y7)) ∧ (∀ y0 y1 y2 y3 y4 y5, LeO (stockaderef05_Order.l3 k y0 y1 y2 y3 y4 y5) (stockaderef05_Order.l3 (k + 1) y0 y1 y2 y3 y4 y5))
 | 0 => ⟨fun _ _ _ _ r h => by simp [stockaderef05_Order.l0] at h, fun _ _ _ _ _ _ _ r h => by simp [stockaderef05_Order.l1] at h, fun _ _ _ _ _ _ _ _ r h => by simp [stockaderef05_Order.l2] at h, fun _ _ _ _ _ _ r h => by simp [stockaderef05_Order.l3] at h⟩
 | k + 1 => by
  obtain ⟨ih0, ih1, ih2, ih3⟩ := stockaderef05_Order.mono_l k
  refine ⟨?_, ?_, ?_, ?_⟩
  ·intro y0 y1 y2 y3
   unfold stockaderef05_Order.l0
   repeat' first
   | (with_reducible exact ih0 _ _ _ _)
   | (with_reducible exact ih1 _ _ _ _ _ _ _)
   | (with_reducible exact ih2 _ _ _ _ _ _ _ _)
   | (with_reducible exact ih3 _ _ _ _ _ _)
   | (with_reducible exact stockaderef05_Reached.mono _ _)
   | (with_reducible exact LeO.refl _)
   | (with_reducible exact LeO.none _)
   | (with_reducible refine LeO.ite ?_ ?_)
   | (with_reducible refine LeO.bind ?_ (fun _ => ?_))
   | exact ih0 _ _ _ _
   | exact ih1 _ _ _ _ _ _ _
   | exact ih2 _ _ _ _ _ _ _ _
   | exact ih3 _ _ _ _ _ _
   | exact stockaderef05_Reached.mono _ _
   | exact LeO.none _
   | refine LeO.ite ?_ ?_
   | refine LeO.bind ?_ (fun _ => ?_)
  ·intro y0 y1 y2 y3 y4 y5 y6
   unfold stockaderef05_Order.l1
   repeat' first
   | (with_reducible exact ih0 _ _ _ _)
   | (with_reducible exact ih1 _ _ _ _ _ _ _)
   | (with_reducible exact ih2 _ _ _ _ _ _ _ _)
   | (with_reducible exact ih3 _ _ _ _ _ _)
   | (with_reducible exact stockaderef05_Reached.mono _ _)
   | (with_reducible exact LeO.refl _)
   | (with_reducible exact LeO.none _)
   | (with_reducible refine LeO.ite ?_ ?_)
   | (with_reducible refine LeO.bind ?_ (fun _ => ?_))
   | exact ih0 _ _ _ _
   | exact ih1 _ _ _ _ _ _ _
   | exact ih2 _ _ _ _ _ _ _ _
   | exact ih3 _ _ _ _ _ _
   | exact stockaderef05_Reached.mono _ _
   | exact LeO.none _
   | refine LeO.ite ?_ ?_
   | refine LeO.bind ?_ (fun _ => ?_)
  ·intro y0 y1 y2 y3 y4 y5 y6 y7
   unfold stockaderef05_Order.l2
   repeat' first
   | (with_reducible exact ih0 _ _ _ _)
   | (with_reducible exact ih1 _ _ _ _ _ _ _)
   | (with_reducible exact ih2 _ _ _ _ _ _ _ _)
   | (with_reducible exact ih3 _ _ _ _ _ _)
   | (with_reducible exact stockaderef05_Reached.mono _ _)
   | (with_reducible exact LeO.refl _)
   | (with_reducible exact LeO.none _)
   | (with_reducible refine LeO.ite ?_ ?_)
   | (with_reducible refine LeO.bind ?_ (fun _ => ?_))
   | exact ih0 _ _ _ _
   | exact ih1 _ _ _ _ _ _ _
   | exact ih2 _ _ _ _ _ _ _ _
   | exact ih3 _ _ _ _ _ _
   | exact stockaderef05_Reached.mono _ _
   | exact LeO.none _
   | refine LeO.ite ?_ ?_
   | refine LeO.bind ?_ (fun _ => ?_)
  ·intro y0 y1 y2 y3 y4 y5
   unfold stockaderef05_Order.l3
   repeat' first
   | (with_reducible exact ih0 _ _ _ _)
   | (with_reducible exact ih1 _ _ _ _ _ _ _)
   | (with_reducible exact ih2 _ _ _ _ _ _ _ _)
   | (with_reducible exact ih3 _ _ _ _ _ _)
   | (with_reducible exact stockaderef05_Reached.mono _ _)
   | (with_reducible exact LeO.refl _)
   | (with_reducible exact LeO.none _)
   | (with_reducible refine LeO.ite ?_ ?_)
   | (with_reducible refine LeO.bind ?_ (fun _ => ?_))
   | exact ih0 _ _ _ _
   | exact ih1 _ _ _ _ _ _ _
   | exact ih2 _ _ _ _ _ _ _ _
   | exact ih3 _ _ _ _ _ _
   | exact stockaderef05_Reached.mono _ _
   | exact LeO.none _
   | refine LeO.ite ?_ ?_
   | refine LeO.bind ?_ (fun _ => ?_)
theorem stockaderef05_Order.mono : ∀ a0 k, LeO (stockaderef05_Order.f k a0) (stockaderef05_Order.f (k + 1) a0) := by
 intro a0 k
 obtain ⟨ih0, ih1, ih2, ih3⟩ := stockaderef05_Order.mono_l k
 unfold stockaderef05_Order.f
 repeat' first
   | (with_reducible exact ih0 _ _ _ _)
   | (with_reducible exact ih1 _ _ _ _ _ _ _)
   | (with_reducible exact ih2 _ _ _ _ _ _ _ _)
   | (with_reducible exact ih3 _ _ _ _ _ _)
   | (with_reducible exact stockaderef05_Reached.mono _ _)
   | (with_reducible exact LeO.refl _)
   | (with_reducible exact LeO.none _)
   | (with_reducible refine LeO.ite ?_ ?_)
   | (with_reducible refine LeO.bind ?_ (fun _ => ?_))
   | exact ih0 _ _ _ _
   | exact ih1 _ _ _ _ _ _ _
   | exact ih2 _ _ _ _ _ _ _ _
   | exact ih3 _ _ _ _ _ _
   | exact stockaderef05_Reached.mono _ _
   | exact LeO.none _
   | refine LeO.ite ?_ ?_
   | refine LeO.bind ?_ (fun _ => ?_)
set_option maxHeartbeats 8000000 in
set_option maxRecDepth 100000 in
theorem stockaderef05_Order.calls (k : Nat) (A0 : Option Addr) (c0 : Nat) (l0 : List (List Int)) (r1 : List Int) (r2 : Int) (w : World) (hr0 : Kd.C (Kd.slice 3 (Kd.int .i64)) w A0 l0.length l0) (hc0 : l0.length ≤ c0) (h : stockaderef05_Order.f k l0 = some (r1, r2)) :
  Calls Tryd.prog 19 #[.slice A0 l0.length c0] w fun e w' => ∃ v0_ : Value, e = .returned (.tuple #[v0_, .int .i64 r2]) ∧ Kd.R (Kd.int .i64) 3 w' w.heap.size (fun _ => True) v0_ r1 ∧ Below w.heap.size w w' := by
 have HR0 := Aside0.mk hr0
 have HC0 := Aside0.mk hc0
 clear hr0 hc0
 have HB := Aside0.mk (Below.refl w.heap.size w)
 have H : ((stockaderef05_Reached.f k l0).bind fun t443 => (stockaderef05_Order.l0 k l0 t443 ([] : List Int) 0)) = some (r1, r2) := h
 clear h
 replace H := Option.bind_eq_some_iff.mp H; obtain ⟨t443, A20, H⟩ := H; try dsimp only at H
 have A2 := Aside0.mk A20
 clear A20
 have H' := Aside0.mk H
 clear H
 go_enter Tryd.func19, Tryd.ntmps19
 go_wp2_with (first | ((with_reducible refine gate_callee (f := 22) rfl ?_); refine sh_call (some 13) Tryd.func22 #[.slice A0 l0.length c0] ?_; (with_reducible refine (stockaderef05_Reached.calls k _ _ l0 t443 _ ?side1 ?side2 A2.out).mono ?_); (case side1 => repeat (first | exact HR0.out | (with_reducible refine Kd.C_alloc ?_ _) | (with_reducible refine Kd.C_drewN ?_ _) | (with_reducible refine Kd.C_drew ?_))); (case side2 => exact HC0.out); rintro e w3 ⟨v444, rfl, ho0, hb⟩; refine ⟨_, rfl, ?_⟩; have HO445 := Aside0.mk (Kd.R_lower ho0 (below_size b_now)); replace HB := sh_b (w := w) hb; (try clear hb); (try clear hb2); (try clear hk); (try clear hi); (try clear ho0)))
 go_loopg [5, 6] k (fun kq v5 v6 w' => ∃ (x4_1 : List Bool) (x5_1 : List Int) (x6_1 : Int), v6 = .int .i64 x6_1 ∧ Aside0 (stockaderef05_Order.l0 kq l0 x4_1 x5_1 x6_1 = some (r1, r2)) ∧ Aside0 (kq ≤ k) ∧ Aside0 (Kd.R Kd.bool 4 w' w.heap.size (fun _ => True) v444 x4_1) ∧ Aside0 (Kd.R (Kd.int .i64) 3 w' w.heap.size (fun _ => True) v5 x5_1) ∧ Aside0 (Below w.heap.size w w'))
 case atStart => exact ⟨(t443), (([] : List Int)), (0), eq_now, H', ⟨Nat.le_refl _⟩, ⟨by (with_reducible repeat (first | apply Kd.R_alloc | apply Kd.R_drewN | apply Kd.R_drew)); exact HO445.out⟩, ⟨by first | exact Kd.R_nil _ _ _ _ _ | exact Kd.N_nil _ _ _ _ _ | exact Kd.V_nil _ _ _ _ _ | exact Kd.Q_nil _ _ _ _ _ | exact Kd.S_nil _ _ _ _ _⟩, ⟨b_now⟩⟩
 case round =>
  clear H'
  try clear c1
  try clear c2
  try clear p2
  obtain ⟨x4_1, x5_1, x6_1, rfl, HA, HK1, HO_4, HO_5, HB⟩ := hrel
  cases gk with
  | zero => exact absurd HA.out (by simp [stockaderef05_Order.l0])
  | succ k1 =>
   have H := HA.out
   clear HA
   simp only [stockaderef05_Order.l0] at H
   by_cases c4 : x6_1 < (l0.length : Int)
   ·rw [if_pos c4] at H
    have c4b0 : decide (x6_1 < (l0.length : Int)) = true := decide_eq_true c4
    clear c4
    by_cases c5 : 0 ≤ (l0.length : Int)
    ·rw [if_pos c5] at H
     have c5b0 := eq_true c5
     have c5b1 : decide (0 ≤ (l0.length : Int)) = true := decide_eq_true c5
     clear c5
     by_cases c6 : ((l0.length : Int) : Int).toNat ≤ 281474976710656
     ·rw [if_pos c6] at H
      have c6b0 := eq_true c6
      have c6b1 : decide (((l0.length : Int) : Int).toNat ≤ 281474976710656) = true := decide_eq_true c6
      clear c6
      obtain ⟨y446, hy446⟩ : ∃ y_ : List Bool, y_ = (List.replicate ((l0.length : Int) : Int).toNat false) := ⟨_, rfl⟩
      replace H : (stockaderef05_Order.l1 k1 l0 x4_1 x5_1 x6_1 y446 false 0) = some (r1, r2) := by first | (rw [hy446]; with_reducible exact H) | (have H2_ := (Option.bind_some _ _).symm.trans H; rw [hy446]; with_reducible exact H2_) | (have H2_ := (Option.bind_some _ _).symm.trans H; with_reducible exact H2_) | with_reducible exact H | (rw [hy446]; exact H) | exact H
      have Ny446 := Aside0.mk hy446
      clear hy446
      have H' := Aside0.mk H
      clear H
      go_wp2_with (first | ((with_reducible refine gate_dst (N := 22) rfl ?_); refine Kd.R_make Kd.bool _ 4 rfl (N := 22) rfl 46 _ _ rfl (l0.length : Int) rfl rfl Tryd.underlying46 (.bool false) 1 info4 rfl (by decide) (by omega) false (ok := fun _ => True) (okp := fun _ => True) rfl (fun _ hk => hk) trivial (of_decide_eq_true (by first | (with_reducible assumption) | assumption)) (Nat.le_trans (Nat.mul_le_mul_right _ (of_decide_eq_true (by first | (with_reducible assumption) | assumption) : (l0.length : Int).toNat ≤ 281474976710656)) (by omega)) (Below.refl _ _) (Nat.le_refl _) ?_; intro v447 w7 ho8 hb hg_ hnew_; clear hg_ hnew_; (first | rw [← Ny446.out] at ho8 | (simp only [Int.reduceToNat] at ho8; rw [← Ny446.out] at ho8)); have HO448 := Aside0.mk (Kd.R_lower (Kd.R_new' ho8 (Kd.R_lt (by (with_reducible repeat (first | apply Kd.R_alloc | apply Kd.R_drewN | apply Kd.R_drew)); exact HO_4.out))) (below_size b_now)); replace HO_4 := Aside0.mk (Kd.R_elder' (by (with_reducible repeat (first | apply Kd.R_alloc | apply Kd.R_drewN | apply Kd.R_drew)); exact HO_4.out) (Kd.R_base ho8) hb); replace HO_5 := Aside0.mk (Kd.R_below (by (with_reducible repeat (first | apply Kd.R_alloc | apply Kd.R_drewN | apply Kd.R_drew)); exact HO_5.out) hb); replace HB := sh_b (w := w) hb; clear hb ho8))
      go_loopg [8, 9] k1 (fun kq v8 v9 w' => ∃ (x7_2 : List Bool) (x8_2 : Bool) (x9_2 : Int), v8 = .bool x8_2 ∧ v9 = .int .i64 x9_2 ∧ Aside0 (stockaderef05_Order.l1 kq l0 x4_1 x5_1 x6_1 x7_2 x8_2 x9_2 = some (r1, r2)) ∧ Aside0 (kq ≤ k1) ∧ Aside0 (Kd.R Kd.bool 4 w' w.heap.size (fun k_ => some k_ ≠ (v447 : Value).ownBlock) v444 x4_1) ∧ Aside0 (Kd.R (Kd.int .i64) 3 w' w.heap.size (fun _ => True) u5 x5_1) ∧ Aside0 (Kd.R Kd.bool 4 w' w.heap.size (fun k_ => some k_ ≠ (v444 : Value).ownBlock) v447 x7_2) ∧ Aside0 (Below w.heap.size w w'))
      case atStart => exact ⟨(y446), (false), (0), eq_now, eq_now, H', ⟨Nat.le_refl _⟩, ⟨by (with_reducible repeat (first | apply Kd.R_alloc | apply Kd.R_drewN | apply Kd.R_drew)); exact Kd.R_mono HO_4.out (fun _ hk => hk.2)⟩, ⟨by (with_reducible repeat (first | apply Kd.R_alloc | apply Kd.R_drewN | apply Kd.R_drew)); exact HO_5.out⟩, ⟨by (with_reducible repeat (first | apply Kd.R_alloc | apply Kd.R_drewN | apply Kd.R_drew)); exact Kd.R_mono HO448.out (fun _ hk => hk.2)⟩, ⟨b_now⟩⟩
      case round =>
       clear H'
       try clear c1
       try clear c2
       try clear p2
       try clear c4
       try clear c4b0
       try clear c5
       try clear c5b0
       try clear c5b1
       try clear c6
       try clear c6b0
       try clear c6b1
       try clear p2
       obtain ⟨x7_2, x8_2, x9_2, rfl, rfl, HA, HK2, HO_4, HO_5, HO_7, HB⟩ := hrel
       cases gk with
       | zero => exact absurd HA.out (by simp [stockaderef05_Order.l1])
       | succ k2 =>
        have H := HA.out
        clear HA
        simp only [stockaderef05_Order.l1] at H
        by_cases c9 : x9_2 < (l0.length : Int)
        ·rw [if_pos c9] at H
         have c9b0 : decide (x9_2 < (l0.length : Int)) = true := decide_eq_true c9
         clear c9
         have H' := Aside0.mk H
         clear H
         go_wp2
         go_loopg [10] k2 (fun kq v10 w' => ∃ (x7_3 : List Bool) (x10_3 : Int), v10 = .int .i64 x10_3 ∧ Aside0 (stockaderef05_Order.l2 kq l0 x4_1 x5_1 x6_1 x7_3 x8_2 x9_2 x10_3 = some (r1, r2)) ∧ Aside0 (kq ≤ k2) ∧ Aside0 (Kd.R Kd.bool 4 w' w.heap.size (fun k_ => some k_ ≠ (v447 : Value).ownBlock) v444 x4_1) ∧ Aside0 (Kd.R (Kd.int .i64) 3 w' w.heap.size (fun _ => True) u5 x5_1) ∧ Aside0 (Kd.R Kd.bool 4 w' w.heap.size (fun k_ => some k_ ≠ (v444 : Value).ownBlock) v447 x7_3) ∧ Aside0 (Below w.heap.size w w'))
         case atStart => exact ⟨(x7_2), (0), eq_now, H', ⟨Nat.le_refl _⟩, ⟨by (with_reducible repeat (first | apply Kd.R_alloc | apply Kd.R_drewN | apply Kd.R_drew)); exact HO_4.out⟩, ⟨by (with_reducible repeat (first | apply Kd.R_alloc | apply Kd.R_drewN | apply Kd.R_drew)); exact HO_5.out⟩, ⟨by (with_reducible repeat (first | apply Kd.R_alloc | apply Kd.R_drewN | apply Kd.R_drew)); exact HO_7.out⟩, ⟨b_now⟩⟩
         case round =>
          clear H'
          try clear c1
          try clear c2
          try clear p2
          try clear c4
          try clear c4b0
          try clear c5
          try clear c5b0
          try clear c5b1
          try clear c6
          try clear c6b0
          try clear c6b1
          try clear c9
          try clear c9b0
          try clear p2
          obtain ⟨x7_3, x10_3, rfl, HA, HK3, HO_4, HO_5, HO_7, HB⟩ := hrel
          cases gk with
          | zero => exact absurd HA.out (by simp [stockaderef05_Order.l2])
          | succ k3 =>
           have H := HA.out
           clear HA
           simp only [stockaderef05_Order.l2] at H
           by_cases c10 : 0 ≤ x9_2
           ·rw [if_pos c10] at H
            have c10b0 : decide (0 ≤ x9_2) = true := decide_eq_true c10
            clear c10
            by_cases c11 : x9_2 < (l0.length : Int)
            ·rw [if_pos c11] at H
             have c11b0 : decide (x9_2 < (l0.length : Int)) = true := decide_eq_true c11
             clear c11
             by_cases c12 : x10_3 < ((rd_L8 l0 x9_2).length : Int)
             ·rw [if_pos c12] at H
              have c12b0 : decide (x10_3 < ((rd_L8 l0 x9_2).length : Int)) = true := decide_eq_true c12
              clear c12
              by_cases c13 : x9_2 < (x4_1.length : Int)
              ·rw [if_pos c13] at H
               have c13b0 : decide (x9_2 < (x4_1.length : Int)) = true := decide_eq_true c13
               clear c13
               obtain ⟨bq14, hbq14⟩ : ∃ b_ : Bool, b_ = (rdOf false x4_1 x9_2) := ⟨_, rfl⟩
               replace H : (if bq14 = true then (if 0 ≤ x10_3 then (if 0 ≤ (rd (rd_L8 l0 x9_2) x10_3) then (if (rd (rd_L8 l0 x9_2) x10_3) < (x7_3.length : Int) then (stockaderef05_Order.l2 k3 l0 x4_1 x5_1 x6_1 (x7_3.set ((rd (rd_L8 l0 x9_2) x10_3) : Int).toNat true) x8_2 x9_2 (wrap64 (x10_3 + 1))) else (none)) else (none)) else (none)) else (if x8_2 = true then (stockaderef05_Order.l1 k3 l0 x4_1 x5_1 x6_1 x7_3 true (wrap64 (x9_2 + 1))) else (stockaderef05_Order.l1 k3 l0 x4_1 x5_1 x6_1 x7_3 bq14 (wrap64 (x9_2 + 1))))) = some (r1, r2) := by rw [← hbq14] at H; exact H
               have Nbq14 := Aside0.mk hbq14
               clear hbq14
               by_cases c15 : bq14 = true
               ·subst c15
                replace H := sh_t H
                by_cases c16 : 0 ≤ x10_3
                ·rw [if_pos c16] at H
                 have c16b0 : decide (0 ≤ x10_3) = true := decide_eq_true c16
                 clear c16
                 by_cases c17 : 0 ≤ (rd (rd_L8 l0 x9_2) x10_3)
                 ·rw [if_pos c17] at H
                  have c17b0 : decide (0 ≤ (rd (rd_L8 l0 x9_2) x10_3)) = true := decide_eq_true c17
                  clear c17
                  by_cases c18 : (rd (rd_L8 l0 x9_2) x10_3) < (x7_3.length : Int)
                  ·rw [if_pos c18] at H
                   have c18b0 : decide ((rd (rd_L8 l0 x9_2) x10_3) < (x7_3.length : Int)) = true := decide_eq_true c18
                   clear c18
                   obtain ⟨y453, hy453⟩ : ∃ y_ : List Bool, y_ = (x7_3.set ((rd (rd_L8 l0 x9_2) x10_3) : Int).toNat true) := ⟨_, rfl⟩
                   replace H : (stockaderef05_Order.l2 k3 l0 x4_1 x5_1 x6_1 y453 x8_2 x9_2 (wrap64 (x10_3 + 1))) = some (r1, r2) := by first | (rw [hy453]; with_reducible exact H) | (have H2_ := (Option.bind_some _ _).symm.trans H; rw [hy453]; with_reducible exact H2_) | (have H2_ := (Option.bind_some _ _).symm.trans H; with_reducible exact H2_) | with_reducible exact H | (rw [hy453]; exact H) | exact H
                   have Ny453 := Aside0.mk hy453
                   clear hy453
                   have H' := Aside0.mk H
                   clear H
                   have p449 : 0 ≤ (x9_2 : Int) := of_decide_eq_true (by first | (with_reducible assumption) | assumption)
                   have q449 : x9_2 < (l0.length : Int) := of_decide_eq_true (by first | (with_reducible assumption) | assumption)
                   obtain ⟨ad449, A449_0, c449_0, e449, hx449_0, hl449_0, hi449_0⟩ := at_L8 HR0.out x9_2 p449 q449
                   cases e449
                   replace hx449_0 := (HB.out.cell (World.block_lt_of_cell? w _ hx449_0)).trans hx449_0
                   have HR449_0 := Aside0.mk hi449_0
                   have HC449_0 := Aside0.mk hl449_0
                   clear hi449_0 hl449_0
                   replace p449 := eq_true p449
                   replace q449 := eq_true q449
                   obtain ⟨Ao20, co20, eo20⟩ := Kd.R_slice HO_4.out
                   subst eo20
                   have p450 : 0 ≤ (x9_2 : Int) := of_decide_eq_true (by first | (with_reducible assumption) | assumption)
                   have q450 : x9_2 < (x4_1.length : Int) := of_decide_eq_true (by first | (with_reducible assumption) | assumption)
                   obtain ⟨ad450, e450, hx450_0⟩ := Kd.at_bool (Kd.R_reads' HO_4.out).2.2 x9_2 p450 q450
                   (try rw [← Nbq14.out] at hx450_0)
                   cases e450
                   replace p450 := eq_true p450
                   replace q450 := eq_true q450
                   have p451 : 0 ≤ (x9_2 : Int) := of_decide_eq_true (by first | (with_reducible assumption) | assumption)
                   have q451 : x9_2 < (l0.length : Int) := of_decide_eq_true (by first | (with_reducible assumption) | assumption)
                   obtain ⟨ad451, A451_0, c451_0, e451, hx451_0, hl451_0, hi451_0⟩ := at_L8 HR0.out x9_2 p451 q451
                   obtain rfl : ad449 = ad451 := (by injection e451)
                   replace hx451_0 := (HB.out.cell (World.block_lt_of_cell? w _ hx451_0)).trans hx451_0
                   have HR451_0 := Aside0.mk hi451_0
                   have HC451_0 := Aside0.mk hl451_0
                   clear hi451_0 hl451_0
                   replace p451 := eq_true p451
                   replace q451 := eq_true q451
                   have ea_ := Option.some.inj (hx449_0.symm.trans hx451_0)
                   injection ea_ with ea_ en_ ec_
                   subst ea_
                   subst ec_
                   clear en_
                   have p452 : 0 ≤ (x10_3 : Int) := of_decide_eq_true (by first | (with_reducible assumption) | assumption)
                   have q452 : x10_3 < ((rd_L8 l0 x9_2).length : Int) := of_decide_eq_true (by first | (with_reducible assumption) | assumption)
                   obtain ⟨ad452, e452, hx452_0⟩ := Kd.at_int HR451_0.out x10_3 p452 q452
                   cases e452
                   replace hx452_0 := (HB.out.cell (World.block_lt_of_cell? w _ hx452_0)).trans hx452_0
                   replace p452 := eq_true p452
                   replace q452 := eq_true q452
                   have p19 : 0 ≤ ((rd (rd_L8 l0 x9_2) x10_3) : Int) := of_decide_eq_true (by first | (with_reducible assumption) | assumption)
                   have q19 : ((rd (rd_L8 l0 x9_2) x10_3) : Int) < ((x7_3.length : Int) : Int) := of_decide_eq_true (by first | (with_reducible assumption) | assumption)
                   obtain ⟨go19, co19, eo19, gb19, gl19, cl19, HG19⟩ := Kd.R_form HO_7.out (by omega)
                   (first | cases eo19 | (injection eo19 with ea_ en_ ec_; (first | subst ea_ | (injection ea_ with ea_; subst ea_)); subst ec_; clear en_))
                   have GB19 := Aside0.mk gb19
                   have GG19 := Aside0.mk HG19
                   clear gb19 gl19 HG19
                   obtain ⟨hx19_0, hf19_0⟩ := Kd.R_celln false HO_7.out ((rd (rd_L8 l0 x9_2) x10_3) : Int) p19 q19
                   replace p19 := eq_true p19
                   replace q19 := eq_true q19
                   have HP21 := Kd.R_putg HO_7.out ((rd (rd_L8 l0 x9_2) x10_3) : Int) true
                   go_wp2_with (first | ((with_reducible refine gate_store (t := 4) (p := 52) rfl ?_); refine store_event (t := 4) (p := 52) (v := ?vo_w22) (w1 := (wr.setCell ⟨go19, ((rd (rd_L8 l0 x9_2) x10_3) : Int).toNat, none⟩ (.bool true))) ?hg ?ho ?hn ?hr ?_; (case ho => rfl); (case hg => rfl); (case hn => rfl); (case hr => first | (go_simp; done) | (go_simp; rfl)); intro w22 hw; have hg : wr.grownBy w22 (some go19) := (by rw [hw]; exact HP21.2); have hp_ : Kd.R Kd.bool 4 w22 w.heap.size (fun k_ => some k_ ≠ (.slice (some ad450) x4_1.length co20 : Value).ownBlock) (.slice (some ⟨go19, 0, none⟩) x7_3.length co19) y453 := (by rw [hw, Ny453.out]; exact HP21.1); clear HP21; replace HO_4 := Aside0.mk (Kd.R_after (v := (.slice (some ⟨go19, 0, none⟩) x7_3.length co19)) (v1 := (.slice (some ⟨go19, 0, none⟩) x7_3.length co19)) (ok := (fun _ => True)) (by (with_reducible repeat (first | apply Kd.R_alloc | apply Kd.R_drewN | apply Kd.R_drew)); exact Kd.R_mono HO_4.out (fun _ hk => ⟨trivial, hk⟩)) hg (.inl rfl)); replace HO_5 := Aside0.mk (Kd.R_over' (v := (.slice (some ⟨go19, 0, none⟩) x7_3.length co19)) (by (with_reducible repeat (first | apply Kd.R_alloc | apply Kd.R_drewN | apply Kd.R_drew)); exact HO_5.out) (Kd.R_typed HO_7.out) (by decide) hg); replace HO_7 := Aside0.mk (hp_); replace HB := Aside0.mk ((by rw [hw]; exact below_set (HB.out) GB19.out : Below w.heap.size w w22)); clear hg hw hp_))
                   go_roundg k3
                   case measure => have := HK1.out; have := HK2.out; have := HK3.out; omega
                   case rel => exact ⟨(y453), (wrap64 (x10_3 + 1)), eq_now, H', ⟨by have := HK1.out; have := HK2.out; have := HK3.out; omega⟩, ⟨by (with_reducible repeat (first | apply Kd.R_alloc | apply Kd.R_drewN | apply Kd.R_drew)); exact Kd.R_mono HO_4.out (fun _ hk => hk.2)⟩, ⟨by (with_reducible repeat (first | apply Kd.R_alloc | apply Kd.R_drewN | apply Kd.R_drew)); exact HO_5.out⟩, ⟨by (with_reducible repeat (first | apply Kd.R_alloc | apply Kd.R_drewN | apply Kd.R_drew)); exact HO_7.out⟩, ⟨b_now⟩⟩
                  ·rw [if_neg c18] at H
                   exact absurd H (by simp)
                 ·rw [if_neg c17] at H
                  exact absurd H (by simp)
                ·rw [if_neg c16] at H
                 exact absurd H (by simp)
               ·replace c15 := Bool.eq_false_iff.mpr c15
                subst c15
                replace H := sh_f H
                by_cases c23 : x8_2 = true
                ·subst c23
                 replace H := sh_t H
                 have H' := Aside0.mk H
                 clear H
                 have p449 : 0 ≤ (x9_2 : Int) := of_decide_eq_true (by first | (with_reducible assumption) | assumption)
                 have q449 : x9_2 < (l0.length : Int) := of_decide_eq_true (by first | (with_reducible assumption) | assumption)
                 obtain ⟨ad449, A449_0, c449_0, e449, hx449_0, hl449_0, hi449_0⟩ := at_L8 HR0.out x9_2 p449 q449
                 cases e449
                 replace hx449_0 := (HB.out.cell (World.block_lt_of_cell? w _ hx449_0)).trans hx449_0
                 have HR449_0 := Aside0.mk hi449_0
                 have HC449_0 := Aside0.mk hl449_0
                 clear hi449_0 hl449_0
                 replace p449 := eq_true p449
                 replace q449 := eq_true q449
                 obtain ⟨Ao24, co24, eo24⟩ := Kd.R_slice HO_4.out
                 subst eo24
                 have p450 : 0 ≤ (x9_2 : Int) := of_decide_eq_true (by first | (with_reducible assumption) | assumption)
                 have q450 : x9_2 < (x4_1.length : Int) := of_decide_eq_true (by first | (with_reducible assumption) | assumption)
                 obtain ⟨ad450, e450, hx450_0⟩ := Kd.at_bool (Kd.R_reads' HO_4.out).2.2 x9_2 p450 q450
                 (try rw [← Nbq14.out] at hx450_0)
                 cases e450
                 replace p450 := eq_true p450
                 replace q450 := eq_true q450
                 go_wp2
                 go_roundg k3
                 case measure => have := HK1.out; have := HK2.out; have := HK3.out; omega
                 case rel => exact ⟨(x7_3), (true), (wrap64 (x9_2 + 1)), eq_now, eq_now, H', ⟨by have := HK1.out; have := HK2.out; have := HK3.out; omega⟩, ⟨by (with_reducible repeat (first | apply Kd.R_alloc | apply Kd.R_drewN | apply Kd.R_drew)); exact HO_4.out⟩, ⟨by (with_reducible repeat (first | apply Kd.R_alloc | apply Kd.R_drewN | apply Kd.R_drew)); exact HO_5.out⟩, ⟨by (with_reducible repeat (first | apply Kd.R_alloc | apply Kd.R_drewN | apply Kd.R_drew)); exact HO_7.out⟩, ⟨b_now⟩⟩
                ·replace c23 := Bool.eq_false_iff.mpr c23
                 subst c23
                 replace H := sh_f H
                 have H' := Aside0.mk H
                 clear H
                 have p449 : 0 ≤ (x9_2 : Int) := of_decide_eq_true (by first | (with_reducible assumption) | assumption)
                 have q449 : x9_2 < (l0.length : Int) := of_decide_eq_true (by first | (with_reducible assumption) | assumption)
                 obtain ⟨ad449, A449_0, c449_0, e449, hx449_0, hl449_0, hi449_0⟩ := at_L8 HR0.out x9_2 p449 q449
                 cases e449
                 replace hx449_0 := (HB.out.cell (World.block_lt_of_cell? w _ hx449_0)).trans hx449_0
                 have HR449_0 := Aside0.mk hi449_0
                 have HC449_0 := Aside0.mk hl449_0
                 clear hi449_0 hl449_0
                 replace p449 := eq_true p449
                 replace q449 := eq_true q449
                 obtain ⟨Ao25, co25, eo25⟩ := Kd.R_slice HO_4.out
                 subst eo25
                 have p450 : 0 ≤ (x9_2 : Int) := of_decide_eq_true (by first | (with_reducible assumption) | assumption)
                 have q450 : x9_2 < (x4_1.length : Int) := of_decide_eq_true (by first | (with_reducible assumption) | assumption)
                 obtain ⟨ad450, e450, hx450_0⟩ := Kd.at_bool (Kd.R_reads' HO_4.out).2.2 x9_2 p450 q450
                 (try rw [← Nbq14.out] at hx450_0)
                 cases e450
                 replace p450 := eq_true p450
                 replace q450 := eq_true q450
                 have p454 : 0 ≤ (x9_2 : Int) := of_decide_eq_true (by first | (with_reducible assumption) | assumption)
                 have q454 : x9_2 < (x4_1.length : Int) := of_decide_eq_true (by first | (with_reducible assumption) | assumption)
                 obtain ⟨ad454, e454, hx454_0⟩ := Kd.at_bool (Kd.R_reads' HO_4.out).2.2 x9_2 p454 q454
                 (try rw [← Nbq14.out] at hx454_0)
                 obtain rfl : ad450 = ad454 := (by injection e454)
                 replace p454 := eq_true p454
                 replace q454 := eq_true q454
                 go_wp2
                 go_roundg k3
                 case measure => have := HK1.out; have := HK2.out; have := HK3.out; omega
                 case rel => exact ⟨(x7_3), (false), (wrap64 (x9_2 + 1)), eq_now, eq_now, H', ⟨by have := HK1.out; have := HK2.out; have := HK3.out; omega⟩, ⟨by (with_reducible repeat (first | apply Kd.R_alloc | apply Kd.R_drewN | apply Kd.R_drew)); exact HO_4.out⟩, ⟨by (with_reducible repeat (first | apply Kd.R_alloc | apply Kd.R_drewN | apply Kd.R_drew)); exact HO_5.out⟩, ⟨by (with_reducible repeat (first | apply Kd.R_alloc | apply Kd.R_drewN | apply Kd.R_drew)); exact HO_7.out⟩, ⟨b_now⟩⟩
              ·rw [if_neg c13] at H
               exact absurd H (by simp)
             ·rw [if_neg c12] at H
              have c12b0 : decide (x10_3 < ((rd_L8 l0 x9_2).length : Int)) = false := decide_eq_false c12
              clear c12
              by_cases c26 : x8_2 = true
              ·subst c26
               replace H := sh_t H
               have H' := Aside0.mk H
               clear H
               have p449 : 0 ≤ (x9_2 : Int) := of_decide_eq_true (by first | (with_reducible assumption) | assumption)
               have q449 : x9_2 < (l0.length : Int) := of_decide_eq_true (by first | (with_reducible assumption) | assumption)
               obtain ⟨ad449, A449_0, c449_0, e449, hx449_0, hl449_0, hi449_0⟩ := at_L8 HR0.out x9_2 p449 q449
               cases e449
               replace hx449_0 := (HB.out.cell (World.block_lt_of_cell? w _ hx449_0)).trans hx449_0
               have HR449_0 := Aside0.mk hi449_0
               have HC449_0 := Aside0.mk hl449_0
               clear hi449_0 hl449_0
               replace p449 := eq_true p449
               replace q449 := eq_true q449
               go_wp2
               go_roundg k3
               case measure => have := HK1.out; have := HK2.out; have := HK3.out; omega
               case rel => exact ⟨(x7_3), (true), (wrap64 (x9_2 + 1)), eq_now, eq_now, H', ⟨by have := HK1.out; have := HK2.out; have := HK3.out; omega⟩, ⟨by (with_reducible repeat (first | apply Kd.R_alloc | apply Kd.R_drewN | apply Kd.R_drew)); exact HO_4.out⟩, ⟨by (with_reducible repeat (first | apply Kd.R_alloc | apply Kd.R_drewN | apply Kd.R_drew)); exact HO_5.out⟩, ⟨by (with_reducible repeat (first | apply Kd.R_alloc | apply Kd.R_drewN | apply Kd.R_drew)); exact HO_7.out⟩, ⟨b_now⟩⟩
              ·replace c26 := Bool.eq_false_iff.mpr c26
               subst c26
               replace H := sh_f H
               by_cases c27 : x9_2 < (x4_1.length : Int)
               ·rw [if_pos c27] at H
                have c27b0 : decide (x9_2 < (x4_1.length : Int)) = true := decide_eq_true c27
                clear c27
                have H' := Aside0.mk H
                clear H
                have p449 : 0 ≤ (x9_2 : Int) := of_decide_eq_true (by first | (with_reducible assumption) | assumption)
                have q449 : x9_2 < (l0.length : Int) := of_decide_eq_true (by first | (with_reducible assumption) | assumption)
                obtain ⟨ad449, A449_0, c449_0, e449, hx449_0, hl449_0, hi449_0⟩ := at_L8 HR0.out x9_2 p449 q449
                cases e449
                replace hx449_0 := (HB.out.cell (World.block_lt_of_cell? w _ hx449_0)).trans hx449_0
                have HR449_0 := Aside0.mk hi449_0
                have HC449_0 := Aside0.mk hl449_0
                clear hi449_0 hl449_0
                replace p449 := eq_true p449
                replace q449 := eq_true q449
                obtain ⟨Ao28, co28, eo28⟩ := Kd.R_slice HO_4.out
                subst eo28
                have p455 : 0 ≤ (x9_2 : Int) := of_decide_eq_true (by first | (with_reducible assumption) | assumption)
                have q455 : x9_2 < (x4_1.length : Int) := of_decide_eq_true (by first | (with_reducible assumption) | assumption)
                obtain ⟨ad455, e455, hx455_0⟩ := Kd.at_bool (Kd.R_reads' HO_4.out).2.2 x9_2 p455 q455
                cases e455
                replace p455 := eq_true p455
                replace q455 := eq_true q455
                go_wp2
                go_roundg k3
                case measure => have := HK1.out; have := HK2.out; have := HK3.out; omega
                case rel => exact ⟨(x7_3), (rdOf false x4_1 x9_2), (wrap64 (x9_2 + 1)), eq_now, eq_now, H', ⟨by have := HK1.out; have := HK2.out; have := HK3.out; omega⟩, ⟨by (with_reducible repeat (first | apply Kd.R_alloc | apply Kd.R_drewN | apply Kd.R_drew)); exact HO_4.out⟩, ⟨by (with_reducible repeat (first | apply Kd.R_alloc | apply Kd.R_drewN | apply Kd.R_drew)); exact HO_5.out⟩, ⟨by (with_reducible repeat (first | apply Kd.R_alloc | apply Kd.R_drewN | apply Kd.R_drew)); exact HO_7.out⟩, ⟨b_now⟩⟩
               ·rw [if_neg c27] at H
                exact absurd H (by simp)
            ·rw [if_neg c11] at H
             exact absurd H (by simp)
           ·rw [if_neg c10] at H
            exact absurd H (by simp)
        ·rw [if_neg c9] at H
         have c9b0 : decide (x9_2 < (l0.length : Int)) = false := decide_eq_false c9
         clear c9
         by_cases c29 : x8_2 = true
         ·subst c29
          replace H := sh_t H
          have H' := Aside0.mk H
          clear H
          go_wp2
          go_loopg [11] k2 (fun kq v11 w' => ∃ (x11_3 : Int), v11 = .int .i64 x11_3 ∧ Aside0 (stockaderef05_Order.l3 kq l0 x4_1 x5_1 x6_1 x7_2 x11_3 = some (r1, r2)) ∧ Aside0 (kq ≤ k2) ∧ Aside0 (Kd.R Kd.bool 4 w' w.heap.size (fun k_ => some k_ ≠ (v447 : Value).ownBlock) v444 x4_1) ∧ Aside0 (Kd.R (Kd.int .i64) 3 w' w.heap.size (fun _ => True) u5 x5_1) ∧ Aside0 (Kd.R Kd.bool 4 w' w.heap.size (fun k_ => some k_ ≠ (v444 : Value).ownBlock) v447 x7_2) ∧ Aside0 (Below w.heap.size w w'))
          case atStart => exact ⟨(0), eq_now, H', ⟨Nat.le_refl _⟩, ⟨by (with_reducible repeat (first | apply Kd.R_alloc | apply Kd.R_drewN | apply Kd.R_drew)); exact HO_4.out⟩, ⟨by (with_reducible repeat (first | apply Kd.R_alloc | apply Kd.R_drewN | apply Kd.R_drew)); exact HO_5.out⟩, ⟨by (with_reducible repeat (first | apply Kd.R_alloc | apply Kd.R_drewN | apply Kd.R_drew)); exact HO_7.out⟩, ⟨b_now⟩⟩
          case round =>
           clear H'
           try clear c1
           try clear p1
           try clear q1
           try clear hx1
           try clear hf1
           try clear c2
           try clear p2
           try clear c4
           try clear c4b0
           try clear p4
           try clear q4
           try clear hx4
           try clear c5
           try clear c5b0
           try clear c5b1
           try clear c6
           try clear c6b0
           try clear c6b1
           try clear p6
           try clear c9
           try clear c9b0
           try clear c10
           try clear c10b0
           try clear c11
           try clear c11b0
           try clear c12
           try clear c12b0
           try clear c13
           try clear c13b0
           try clear q14
           try clear c15
           try clear c16
           try clear c16b0
           try clear c17
           try clear c17b0
           try clear c18
           try clear c18b0
           try clear c19
           try clear p19
           try clear q19
           try clear hx19
           try clear hf19
           try clear c22
           try clear c23
           try clear c26
           try clear c27
           try clear c27b0
           try clear c29
           try clear hx19_0
           try clear hx449_0
           try clear hx450_0
           try clear hx451_0
           try clear hx452_0
           try clear hx454_0
           try clear hx455_0
           try clear p19
           try clear p2
           try clear p449
           try clear p450
           try clear p451
           try clear p452
           try clear p454
           try clear p455
           try clear q19
           try clear q449
           try clear q450
           try clear q451
           try clear q452
           try clear q454
           try clear q455
           obtain ⟨x11_3, rfl, HA, HK3, HO_4, HO_5, HO_7, HB⟩ := hrel
           cases gk with
           | zero => exact absurd HA.out (by simp [stockaderef05_Order.l3])
           | succ k3 =>
            have H := HA.out
            clear HA
            simp only [stockaderef05_Order.l3] at H
            by_cases c30 : x11_3 < (l0.length : Int)
            ·rw [if_pos c30] at H
             have c30b0 : decide (x11_3 < (l0.length : Int)) = true := decide_eq_true c30
             clear c30
             by_cases c31 : 0 ≤ x11_3
             ·rw [if_pos c31] at H
              have c31b0 : decide (0 ≤ x11_3) = true := decide_eq_true c31
              clear c31
              by_cases c32 : x11_3 < (x4_1.length : Int)
              ·rw [if_pos c32] at H
               have c32b0 : decide (x11_3 < (x4_1.length : Int)) = true := decide_eq_true c32
               clear c32
               obtain ⟨bq33, hbq33⟩ : ∃ b_ : Bool, b_ = (rdOf false x4_1 x11_3) := ⟨_, rfl⟩
               replace H : (if bq33 = true then (if x11_3 < (x7_2.length : Int) then (if rdOf false x7_2 x11_3 = true then (stockaderef05_Order.l3 k3 l0 x4_1 x5_1 x6_1 x7_2 (wrap64 (x11_3 + 1))) else (if x11_3 = (l0.length : Int) then (some (([] : List Int), 28)) else (if x5_1.length < 17592186044416 then (stockaderef05_Order.l0 k3 l0 (x4_1.set (x11_3 : Int).toNat false) (x5_1 ++ [x11_3]) (wrap64 (x6_1 + 1))) else (none)))) else (none)) else (stockaderef05_Order.l3 k3 l0 x4_1 x5_1 x6_1 x7_2 (wrap64 (x11_3 + 1)))) = some (r1, r2) := by rw [← hbq33] at H; exact H
               have Nbq33 := Aside0.mk hbq33
               clear hbq33
               by_cases c34 : bq33 = true
               ·subst c34
                replace H := sh_t H
                by_cases c35 : x11_3 < (x7_2.length : Int)
                ·rw [if_pos c35] at H
                 have c35b0 : decide (x11_3 < (x7_2.length : Int)) = true := decide_eq_true c35
                 clear c35
                 obtain ⟨bq36, hbq36⟩ : ∃ b_ : Bool, b_ = (rdOf false x7_2 x11_3) := ⟨_, rfl⟩
                 replace H : (if bq36 = true then (stockaderef05_Order.l3 k3 l0 x4_1 x5_1 x6_1 x7_2 (wrap64 (x11_3 + 1))) else (if x11_3 = (l0.length : Int) then (some (([] : List Int), 28)) else (if x5_1.length < 17592186044416 then (stockaderef05_Order.l0 k3 l0 (x4_1.set (x11_3 : Int).toNat false) (x5_1 ++ [x11_3]) (wrap64 (x6_1 + 1))) else (none)))) = some (r1, r2) := by rw [← hbq36] at H; exact H
                 have Nbq36 := Aside0.mk hbq36
                 clear hbq36
                 by_cases c37 : bq36 = true
                 ·subst c37
                  replace H := sh_t H
                  have H' := Aside0.mk H
                  clear H
                  obtain ⟨Ao38, co38, eo38⟩ := Kd.R_slice HO_4.out
                  subst eo38
                  have p456 : 0 ≤ (x11_3 : Int) := of_decide_eq_true (by first | (with_reducible assumption) | assumption)
                  have q456 : x11_3 < (x4_1.length : Int) := of_decide_eq_true (by first | (with_reducible assumption) | assumption)
                  obtain ⟨ad456, e456, hx456_0⟩ := Kd.at_bool (Kd.R_reads' HO_4.out).2.2 x11_3 p456 q456
                  (try rw [← Nbq33.out] at hx456_0)
                  (try rw [← Nbq36.out] at hx456_0)
                  cases e456
                  replace p456 := eq_true p456
                  replace q456 := eq_true q456
                  obtain ⟨Ao39, co39, eo39⟩ := Kd.R_slice HO_7.out
                  subst eo39
                  have p457 : 0 ≤ (x11_3 : Int) := of_decide_eq_true (by first | (with_reducible assumption) | assumption)
                  have q457 : x11_3 < (x7_2.length : Int) := of_decide_eq_true (by first | (with_reducible assumption) | assumption)
                  obtain ⟨ad457, e457, hx457_0⟩ := Kd.at_bool (Kd.R_reads' HO_7.out).2.2 x11_3 p457 q457
                  (try rw [← Nbq33.out] at hx457_0)
                  (try rw [← Nbq36.out] at hx457_0)
                  cases e457
                  replace p457 := eq_true p457
                  replace q457 := eq_true q457
                  go_wp2
                  go_roundg k3
                  case measure => have := HK1.out; have := HK2.out; have := HK3.out; omega
                  case rel => exact ⟨(wrap64 (x11_3 + 1)), eq_now, H', ⟨by have := HK1.out; have := HK2.out; have := HK3.out; omega⟩, ⟨by (with_reducible repeat (first | apply Kd.R_alloc | apply Kd.R_drewN | apply Kd.R_drew)); exact HO_4.out⟩, ⟨by (with_reducible repeat (first | apply Kd.R_alloc | apply Kd.R_drewN | apply Kd.R_drew)); exact HO_5.out⟩, ⟨by (with_reducible repeat (first | apply Kd.R_alloc | apply Kd.R_drewN | apply Kd.R_drew)); exact HO_7.out⟩, ⟨b_now⟩⟩
                 ·replace c37 := Bool.eq_false_iff.mpr c37
                  subst c37
                  replace H := sh_f H
                  by_cases c40 : x11_3 = (l0.length : Int)
                  ·rw [if_pos c40] at H
                   have c40b0 : (x11_3 == (l0.length : Int)) = true := beq_iff_eq.mpr c40
                   have c40b1 : (x11_3 != (l0.length : Int)) = false := bne_eq_false_iff_eq.mpr c40
                   clear c40
                   simp only [Option.some.injEq, Prod.mk.injEq] at H
                   obtain ⟨rfl, rfl⟩ := H
                   obtain ⟨Ao41, co41, eo41⟩ := Kd.R_slice HO_4.out
                   subst eo41
                   have p456 : 0 ≤ (x11_3 : Int) := of_decide_eq_true (by first | (with_reducible assumption) | assumption)
                   have q456 : x11_3 < (x4_1.length : Int) := of_decide_eq_true (by first | (with_reducible assumption) | assumption)
                   obtain ⟨ad456, e456, hx456_0⟩ := Kd.at_bool (Kd.R_reads' HO_4.out).2.2 x11_3 p456 q456
                   (try rw [← Nbq33.out] at hx456_0)
                   (try rw [← Nbq36.out] at hx456_0)
                   cases e456
                   replace p456 := eq_true p456
                   replace q456 := eq_true q456
                   obtain ⟨Ao42, co42, eo42⟩ := Kd.R_slice HO_7.out
                   subst eo42
                   have p457 : 0 ≤ (x11_3 : Int) := of_decide_eq_true (by first | (with_reducible assumption) | assumption)
                   have q457 : x11_3 < (x7_2.length : Int) := of_decide_eq_true (by first | (with_reducible assumption) | assumption)
                   obtain ⟨ad457, e457, hx457_0⟩ := Kd.at_bool (Kd.R_reads' HO_7.out).2.2 x11_3 p457 q457
                   (try rw [← Nbq33.out] at hx457_0)
                   (try rw [← Nbq36.out] at hx457_0)
                   cases e457
                   replace p457 := eq_true p457
                   replace q457 := eq_true q457
                   go_wp2
                   go_ret2
                   exact ⟨_, ret_now, by first | exact Kd.R_nil _ _ _ _ _ | exact Kd.N_nil _ _ _ _ _ | exact Kd.V_nil _ _ _ _ _ | exact Kd.Q_nil _ _ _ _ _ | exact Kd.S_nil _ _ _ _ _, b_now⟩
                  ·rw [if_neg c40] at H
                   have c40b0 : (x11_3 == (l0.length : Int)) = false := beq_eq_false_iff_ne.mpr c40
                   have c40b1 : (x11_3 != (l0.length : Int)) = true := bne_iff_ne.mpr c40
                   obtain ⟨y458, hy458⟩ : ∃ y_ : List Bool, y_ = (x4_1.set (x11_3 : Int).toNat false) := ⟨_, rfl⟩
                   replace H : (if x5_1.length < 17592186044416 then (stockaderef05_Order.l0 k3 l0 y458 (x5_1 ++ [x11_3]) (wrap64 (x6_1 + 1))) else (none)) = some (r1, r2) := by first | (rw [hy458]; with_reducible exact H) | (have H2_ := (Option.bind_some _ _).symm.trans H; rw [hy458]; with_reducible exact H2_) | (have H2_ := (Option.bind_some _ _).symm.trans H; with_reducible exact H2_) | with_reducible exact H | (rw [hy458]; exact H) | exact H
                   have Ny458 := Aside0.mk hy458
                   clear hy458
                   by_cases c44 : x5_1.length < 17592186044416
                   ·rw [if_pos c44] at H
                    have LMc44 := Aside0.mk c44
                    clear c44
                    obtain ⟨y459, hy459⟩ : ∃ y_ : List Int, y_ = (x5_1 ++ [x11_3]) := ⟨_, rfl⟩
                    replace H : (stockaderef05_Order.l0 k3 l0 y458 y459 (wrap64 (x6_1 + 1))) = some (r1, r2) := by first | (rw [hy459]; with_reducible exact H) | (have H2_ := (Option.bind_some _ _).symm.trans H; rw [hy459]; with_reducible exact H2_) | (have H2_ := (Option.bind_some _ _).symm.trans H; with_reducible exact H2_) | with_reducible exact H | (rw [hy459]; exact H) | exact H
                    have Ny459 := Aside0.mk hy459
                    clear hy459
                    have H' := Aside0.mk H
                    clear H
                    obtain ⟨Ao45, co45, eo45⟩ := Kd.R_slice HO_4.out
                    subst eo45
                    have p456 : 0 ≤ (x11_3 : Int) := of_decide_eq_true (by first | (with_reducible assumption) | assumption)
                    have q456 : x11_3 < (x4_1.length : Int) := of_decide_eq_true (by first | (with_reducible assumption) | assumption)
                    obtain ⟨ad456, e456, hx456_0⟩ := Kd.at_bool (Kd.R_reads' HO_4.out).2.2 x11_3 p456 q456
                    (try rw [← Nbq33.out] at hx456_0)
                    (try rw [← Nbq36.out] at hx456_0)
                    cases e456
                    replace p456 := eq_true p456
                    replace q456 := eq_true q456
                    obtain ⟨Ao46, co46, eo46⟩ := Kd.R_slice HO_7.out
                    subst eo46
                    have p457 : 0 ≤ (x11_3 : Int) := of_decide_eq_true (by first | (with_reducible assumption) | assumption)
                    have q457 : x11_3 < (x7_2.length : Int) := of_decide_eq_true (by first | (with_reducible assumption) | assumption)
                    obtain ⟨ad457, e457, hx457_0⟩ := Kd.at_bool (Kd.R_reads' HO_7.out).2.2 x11_3 p457 q457
                    (try rw [← Nbq33.out] at hx457_0)
                    (try rw [← Nbq36.out] at hx457_0)
                    cases e457
                    replace p457 := eq_true p457
                    replace q457 := eq_true q457
                    have p43 : 0 ≤ (x11_3 : Int) := of_decide_eq_true (by first | (with_reducible assumption) | assumption)
                    have q43 : (x11_3 : Int) < ((x4_1.length : Int) : Int) := of_decide_eq_true (by first | (with_reducible assumption) | assumption)
                    obtain ⟨go43, co43, eo43, gb43, gl43, cl43, HG43⟩ := Kd.R_form HO_4.out (by omega)
                    (first | cases eo43 | (injection eo43 with ea_ en_ ec_; (first | subst ea_ | (injection ea_ with ea_; subst ea_)); subst ec_; clear en_))
                    have GB43 := Aside0.mk gb43
                    have GG43 := Aside0.mk HG43
                    clear gb43 gl43 HG43
                    (first | simp only [add_plain] at hx456_0 | skip)
                    obtain ⟨hx43_0, hf43_0⟩ := Kd.R_celln false HO_4.out (x11_3 : Int) p43 q43
                    replace p43 := eq_true p43
                    replace q43 := eq_true q43
                    have HP47 := Kd.R_putg HO_4.out (x11_3 : Int) false
                    go_wp2_with (first | ((with_reducible refine gate_store (t := 4) (p := 87) rfl ?_); refine store_event (t := 4) (p := 87) (v := ?vo_w48) (w1 := (wr.setCell ⟨go43, (x11_3 : Int).toNat, none⟩ (.bool false))) ?hg ?ho ?hn ?hr ?_; (case ho => rfl); (case hg => rfl); (case hn => rfl); (case hr => first | (go_simp; done) | (go_simp; rfl)); intro w48 hw; have hg : wr.grownBy w48 (some go43) := (by rw [hw]; exact HP47.2); have hp_ : Kd.R Kd.bool 4 w48 w.heap.size (fun k_ => some k_ ≠ (.slice (some ad457) x7_2.length co46 : Value).ownBlock) (.slice (some ⟨go43, 0, none⟩) x4_1.length co45) y458 := (by rw [hw, Ny458.out]; exact HP47.1); clear HP47; have n0_ := Aside0.mk (hp_); have n1_ := Aside0.mk (Kd.R_over' (v := (.slice (some ⟨go43, 0, none⟩) x4_1.length co45)) (by (with_reducible repeat (first | apply Kd.R_alloc | apply Kd.R_drewN | apply Kd.R_drew)); exact HO_5.out) (Kd.R_typed HO_4.out) (by decide) hg); have n2_ := Aside0.mk (Kd.R_after (v := (.slice (some ⟨go43, 0, none⟩) x4_1.length co45)) (v1 := (.slice (some ⟨go43, 0, none⟩) x4_1.length co45)) (ok := (fun _ => True)) (by (with_reducible repeat (first | apply Kd.R_alloc | apply Kd.R_drewN | apply Kd.R_drew)); exact Kd.R_mono HO_7.out (fun _ hk => ⟨trivial, hk⟩)) hg (.inl rfl)); have n3_ := Aside0.mk ((by rw [hw]; exact below_set (HB.out) GB43.out : Below w.heap.size w w48)); clear HO_4; clear HO_5; clear HO_7; clear HB; have HO_4 := n0_; have HO_5 := n1_; have HO_7 := n2_; have HB := n3_; clear n0_ n1_ n2_ n3_; clear hg hw hp_) | ((with_reducible refine gate_builtin (b := .append) (xs := #[.tmp 88, .tmp 90]) rfl ?_); at_builtin; refine Kd.R_append (Kd.int .i64) (w0 := w) w.heap.size rfl (.tmp 88) (.tmp 90) 25 3 (.int .i64 0) 8 rfl Tryd.underlying25 info3 rfl (by decide) (by omega) u5 x5_1 x11_3 [.int .i64 x11_3] (fun _ => True) (fun _ => False) rfl rfl ?aP (fun _ hk => hk.elim) ?aF ?aO ?aB ?aS ?aL ?_; (case aP => exact rfl); (case aB => exact b_now); (case aF => exact (fun _ _ => trivial)); (case aO => exact (by (with_reducible repeat (first | apply Kd.R_alloc | apply Kd.R_drewN | apply Kd.R_drew)); exact HO_5.out)); (case aS => exact (below_size b_now)); (case aL => have := LMc44.out; omega); intro v460 w49 ho hb hg hat; rw [← Ny459.out] at ho; have n0_ := Aside0.mk (Kd.R_over' (by (with_reducible repeat (first | apply Kd.R_alloc | apply Kd.R_drewN | apply Kd.R_drew)); exact HO_4.out) (Kd.R_typed (by (with_reducible repeat (first | apply Kd.R_alloc | apply Kd.R_drewN | apply Kd.R_drew)); exact HO_5.out)) (by decide) hg); have n1_ := Aside0.mk (Kd.R_over' (by (with_reducible repeat (first | apply Kd.R_alloc | apply Kd.R_drewN | apply Kd.R_drew)); exact HO_7.out) (Kd.R_typed (by (with_reducible repeat (first | apply Kd.R_alloc | apply Kd.R_drewN | apply Kd.R_drew)); exact HO_5.out)) (by decide) hg); have n2_ := Aside0.mk (hb); have n3_ := Aside0.mk (ho); clear HO_4; clear HO_7; clear HB; clear HO_5; have HO_4 := n0_; have HO_7 := n1_; have HB := n2_; have HO461 := n3_; clear n0_ n1_ n2_ n3_; clear ho hb hg hat))
                    go_roundg k3
                    case measure => have := HK1.out; have := HK2.out; have := HK3.out; omega
                    case rel => exact ⟨(y458), (y459), (wrap64 (x6_1 + 1)), eq_now, H', ⟨by have := HK1.out; have := HK2.out; have := HK3.out; omega⟩, ⟨by (with_reducible repeat (first | apply Kd.R_alloc | apply Kd.R_drewN | apply Kd.R_drew)); exact Kd.R_mono HO_4.out (fun _ hk => trivial)⟩, ⟨by (with_reducible repeat (first | apply Kd.R_alloc | apply Kd.R_drewN | apply Kd.R_drew)); exact HO461.out⟩, ⟨b_now⟩⟩
                   ·rw [if_neg c44] at H
                    exact absurd H (by simp)
                ·rw [if_neg c35] at H
                 exact absurd H (by simp)
               ·replace c34 := Bool.eq_false_iff.mpr c34
                subst c34
                replace H := sh_f H
                have H' := Aside0.mk H
                clear H
                obtain ⟨Ao50, co50, eo50⟩ := Kd.R_slice HO_4.out
                subst eo50
                have p456 : 0 ≤ (x11_3 : Int) := of_decide_eq_true (by first | (with_reducible assumption) | assumption)
                have q456 : x11_3 < (x4_1.length : Int) := of_decide_eq_true (by first | (with_reducible assumption) | assumption)
                obtain ⟨ad456, e456, hx456_0⟩ := Kd.at_bool (Kd.R_reads' HO_4.out).2.2 x11_3 p456 q456
                (try rw [← Nbq33.out] at hx456_0)
                cases e456
                replace p456 := eq_true p456
                replace q456 := eq_true q456
                go_wp2
                go_roundg k3
                case measure => have := HK1.out; have := HK2.out; have := HK3.out; omega
                case rel => exact ⟨(wrap64 (x11_3 + 1)), eq_now, H', ⟨by have := HK1.out; have := HK2.out; have := HK3.out; omega⟩, ⟨by (with_reducible repeat (first | apply Kd.R_alloc | apply Kd.R_drewN | apply Kd.R_drew)); exact HO_4.out⟩, ⟨by (with_reducible repeat (first | apply Kd.R_alloc | apply Kd.R_drewN | apply Kd.R_drew)); exact HO_5.out⟩, ⟨by (with_reducible repeat (first | apply Kd.R_alloc | apply Kd.R_drewN | apply Kd.R_drew)); exact HO_7.out⟩, ⟨b_now⟩⟩
              ·rw [if_neg c32] at H
               exact absurd H (by simp)
             ·rw [if_neg c31] at H
              exact absurd H (by simp)
            ·rw [if_neg c30] at H
             have c30b0 : decide (x11_3 < (l0.length : Int)) = false := decide_eq_false c30
             clear c30
             by_cases c51 : x11_3 = (l0.length : Int)
             ·rw [if_pos c51] at H
              have c51b0 : (x11_3 == (l0.length : Int)) = true := beq_iff_eq.mpr c51
              have c51b1 : (x11_3 != (l0.length : Int)) = false := bne_eq_false_iff_eq.mpr c51
              clear c51
              simp only [Option.some.injEq, Prod.mk.injEq] at H
              obtain ⟨rfl, rfl⟩ := H
              go_wp2
              go_ret2
              exact ⟨_, ret_now, by first | exact Kd.R_nil _ _ _ _ _ | exact Kd.N_nil _ _ _ _ _ | exact Kd.V_nil _ _ _ _ _ | exact Kd.Q_nil _ _ _ _ _ | exact Kd.S_nil _ _ _ _ _, b_now⟩
             ·rw [if_neg c51] at H
              have c51b0 : (x11_3 == (l0.length : Int)) = false := beq_eq_false_iff_ne.mpr c51
              have c51b1 : (x11_3 != (l0.length : Int)) = true := bne_iff_ne.mpr c51
              by_cases c52 : 0 ≤ x11_3
              ·rw [if_pos c52] at H
               have c52b0 : decide (0 ≤ x11_3) = true := decide_eq_true c52
               clear c52
               by_cases c53 : x11_3 < (x4_1.length : Int)
               ·rw [if_pos c53] at H
                have c53b0 : decide (x11_3 < (x4_1.length : Int)) = true := decide_eq_true c53
                clear c53
                obtain ⟨y462, hy462⟩ : ∃ y_ : List Bool, y_ = (x4_1.set (x11_3 : Int).toNat false) := ⟨_, rfl⟩
                replace H : (if x5_1.length < 17592186044416 then (stockaderef05_Order.l0 k3 l0 y462 (x5_1 ++ [x11_3]) (wrap64 (x6_1 + 1))) else (none)) = some (r1, r2) := by first | (rw [hy462]; with_reducible exact H) | (have H2_ := (Option.bind_some _ _).symm.trans H; rw [hy462]; with_reducible exact H2_) | (have H2_ := (Option.bind_some _ _).symm.trans H; with_reducible exact H2_) | with_reducible exact H | (rw [hy462]; exact H) | exact H
                have Ny462 := Aside0.mk hy462
                clear hy462
                by_cases c55 : x5_1.length < 17592186044416
                ·rw [if_pos c55] at H
                 have LMc55 := Aside0.mk c55
                 clear c55
                 obtain ⟨y463, hy463⟩ : ∃ y_ : List Int, y_ = (x5_1 ++ [x11_3]) := ⟨_, rfl⟩
                 replace H : (stockaderef05_Order.l0 k3 l0 y462 y463 (wrap64 (x6_1 + 1))) = some (r1, r2) := by first | (rw [hy463]; with_reducible exact H) | (have H2_ := (Option.bind_some _ _).symm.trans H; rw [hy463]; with_reducible exact H2_) | (have H2_ := (Option.bind_some _ _).symm.trans H; with_reducible exact H2_) | with_reducible exact H | (rw [hy463]; exact H) | exact H
                 have Ny463 := Aside0.mk hy463
                 clear hy463
                 have H' := Aside0.mk H
                 clear H
                 have p54 : 0 ≤ (x11_3 : Int) := of_decide_eq_true (by first | (with_reducible assumption) | assumption)
                 have q54 : (x11_3 : Int) < ((x4_1.length : Int) : Int) := of_decide_eq_true (by first | (with_reducible assumption) | assumption)
                 obtain ⟨go54, co54, eo54, gb54, gl54, cl54, HG54⟩ := Kd.R_form HO_4.out (by omega)
                 (first | cases eo54 | (injection eo54 with ea_ en_ ec_; (first | subst ea_ | (injection ea_ with ea_; subst ea_)); subst ec_; clear en_))
                 have GB54 := Aside0.mk gb54
                 have GG54 := Aside0.mk HG54
                 clear gb54 gl54 HG54
                 obtain ⟨hx54_0, hf54_0⟩ := Kd.R_celln false HO_4.out (x11_3 : Int) p54 q54
                 replace p54 := eq_true p54
                 replace q54 := eq_true q54
                 have HP56 := Kd.R_putg HO_4.out (x11_3 : Int) false
                 go_wp2_with (first | ((with_reducible refine gate_store (t := 4) (p := 87) rfl ?_); refine store_event (t := 4) (p := 87) (v := ?vo_w57) (w1 := (wr.setCell ⟨go54, (x11_3 : Int).toNat, none⟩ (.bool false))) ?hg ?ho ?hn ?hr ?_; (case ho => rfl); (case hg => rfl); (case hn => rfl); (case hr => first | (go_simp; done) | (go_simp; rfl)); intro w57 hw; have hg : wr.grownBy w57 (some go54) := (by rw [hw]; exact HP56.2); have hp_ : Kd.R Kd.bool 4 w57 w.heap.size (fun k_ => some k_ ≠ (v447 : Value).ownBlock) (.slice (some ⟨go54, 0, none⟩) x4_1.length co54) y462 := (by rw [hw, Ny462.out]; exact HP56.1); clear HP56; have n0_ := Aside0.mk (hp_); have n1_ := Aside0.mk (Kd.R_over' (v := (.slice (some ⟨go54, 0, none⟩) x4_1.length co54)) (by (with_reducible repeat (first | apply Kd.R_alloc | apply Kd.R_drewN | apply Kd.R_drew)); exact HO_5.out) (Kd.R_typed HO_4.out) (by decide) hg); have n2_ := Aside0.mk (Kd.R_after (v := (.slice (some ⟨go54, 0, none⟩) x4_1.length co54)) (v1 := (.slice (some ⟨go54, 0, none⟩) x4_1.length co54)) (ok := (fun _ => True)) (by (with_reducible repeat (first | apply Kd.R_alloc | apply Kd.R_drewN | apply Kd.R_drew)); exact Kd.R_mono HO_7.out (fun _ hk => ⟨trivial, hk⟩)) hg (.inl rfl)); have n3_ := Aside0.mk ((by rw [hw]; exact below_set (HB.out) GB54.out : Below w.heap.size w w57)); clear HO_4; clear HO_5; clear HO_7; clear HB; have HO_4 := n0_; have HO_5 := n1_; have HO_7 := n2_; have HB := n3_; clear n0_ n1_ n2_ n3_; clear hg hw hp_) | ((with_reducible refine gate_builtin (b := .append) (xs := #[.tmp 88, .tmp 90]) rfl ?_); at_builtin; refine Kd.R_append (Kd.int .i64) (w0 := w) w.heap.size rfl (.tmp 88) (.tmp 90) 25 3 (.int .i64 0) 8 rfl Tryd.underlying25 info3 rfl (by decide) (by omega) u5 x5_1 x11_3 [.int .i64 x11_3] (fun _ => True) (fun _ => False) rfl rfl ?aP (fun _ hk => hk.elim) ?aF ?aO ?aB ?aS ?aL ?_; (case aP => exact rfl); (case aB => exact b_now); (case aF => exact (fun _ _ => trivial)); (case aO => exact (by (with_reducible repeat (first | apply Kd.R_alloc | apply Kd.R_drewN | apply Kd.R_drew)); exact HO_5.out)); (case aS => exact (below_size b_now)); (case aL => have := LMc55.out; omega); intro v464 w58 ho hb hg hat; rw [← Ny463.out] at ho; have n0_ := Aside0.mk (Kd.R_over' (by (with_reducible repeat (first | apply Kd.R_alloc | apply Kd.R_drewN | apply Kd.R_drew)); exact HO_4.out) (Kd.R_typed (by (with_reducible repeat (first | apply Kd.R_alloc | apply Kd.R_drewN | apply Kd.R_drew)); exact HO_5.out)) (by decide) hg); have n1_ := Aside0.mk (Kd.R_over' (by (with_reducible repeat (first | apply Kd.R_alloc | apply Kd.R_drewN | apply Kd.R_drew)); exact HO_7.out) (Kd.R_typed (by (with_reducible repeat (first | apply Kd.R_alloc | apply Kd.R_drewN | apply Kd.R_drew)); exact HO_5.out)) (by decide) hg); have n2_ := Aside0.mk (hb); have n3_ := Aside0.mk (ho); clear HO_4; clear HO_7; clear HB; clear HO_5; have HO_4 := n0_; have HO_7 := n1_; have HB := n2_; have HO465 := n3_; clear n0_ n1_ n2_ n3_; clear ho hb hg hat))
                 go_roundg k3
                 case measure => have := HK1.out; have := HK2.out; have := HK3.out; omega
                 case rel => exact ⟨(y462), (y463), (wrap64 (x6_1 + 1)), eq_now, H', ⟨by have := HK1.out; have := HK2.out; have := HK3.out; omega⟩, ⟨by (with_reducible repeat (first | apply Kd.R_alloc | apply Kd.R_drewN | apply Kd.R_drew)); exact Kd.R_mono HO_4.out (fun _ hk => trivial)⟩, ⟨by (with_reducible repeat (first | apply Kd.R_alloc | apply Kd.R_drewN | apply Kd.R_drew)); exact HO465.out⟩, ⟨b_now⟩⟩
                ·rw [if_neg c55] at H
                 exact absurd H (by simp)
               ·rw [if_neg c53] at H
                exact absurd H (by simp)
              ·rw [if_neg c52] at H
               exact absurd H (by simp)
         ·replace c29 := Bool.eq_false_iff.mpr c29
          subst c29
          replace H := sh_f H
          simp only [Option.some.injEq, Prod.mk.injEq] at H
          obtain ⟨rfl, rfl⟩ := H
          go_wp2
          go_ret2
          exact ⟨_, ret_now, by (with_reducible repeat (first | apply Kd.R_alloc | apply Kd.R_drewN | apply Kd.R_drew)); exact HO_5.out, b_now⟩
     ·rw [if_neg c6] at H
      exact absurd H (by simp)
    ·rw [if_neg c5] at H
     exact absurd H (by simp)
   ·rw [if_neg c4] at H
    have c4b0 : decide (x6_1 < (l0.length : Int)) = false := decide_eq_false c4
    clear c4
    simp only [Option.some.injEq, Prod.mk.injEq] at H
    obtain ⟨rfl, rfl⟩ := H
    go_wp2
    go_ret2
    exact ⟨_, ret_now, by (with_reducible repeat (first | apply Kd.R_alloc | apply Kd.R_drewN | apply Kd.R_drew)); exact HO_5.out, b_now⟩

end Go.Proofs.YtkjcjlegokdpdaaDoor.P
