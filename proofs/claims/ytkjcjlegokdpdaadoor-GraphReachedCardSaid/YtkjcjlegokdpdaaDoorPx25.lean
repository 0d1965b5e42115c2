/- Made by this session's driver over the kit's printer: for each Go function a Lean function with the same answers, and a proof that the Go call comes to these answers; no conditions but the ones each theorem names. -/
import Derived.Test.YtkjcjlegokdpdaaDoorPx0
import Derived.Test.YtkjcjlegokdpdaaDoorPx15
import Derived.Test.YtkjcjlegokdpdaaDoorPx19
namespace Go.Proofs.YtkjcjlegokdpdaaDoor.P
open Go.RowKit Go.Proofs.YtkjcjlegokdpdaaDoorW.PrintWords Go.Proofs.YtkjcjlegokdpdaaDoorW.PrintLast Go.Proofs.YtkjcjlegokdpdaaDoorW.PrintMore
attribute [local go_sem] max2_int min2_int max_two min_two max_three min_three max_four min_four   -- for this text's walks alone
set_option linter.unusedVariables false
set_option linter.unusedSimpArgs false

/-! ### stockaderef05_Dead: function 24 -/
def stockaderef05_Dead.l0 : Nat → List (S44) → List Bool → Int → Option (Int)
 | 0, _, _, _ => none
 | k + 1, x0, x5, x6 => if x6 < (x0.length : Int) then (if 0 ≤ x6 then (if x6 < (x5.length : Int) then (if rdOf false x5 x6 = true then (stockaderef05_Dead.l0 k x0 x5 (wrap64 (x6 + 1))) else ((stockaderef05_Start.f k x0 x6).bind fun t548 => (if t548 = true then (some x6) else (stockaderef05_Dead.l0 k x0 x5 (wrap64 (x6 + 1)))))) else (none)) else (none)) else (some (-1))
def stockaderef05_Dead.f (k : Nat) (l0 : List (S44)) (l1 : List (List Int)) : Option (Int) := (stockaderef05_Reached.f k l1).bind fun t544 => (stockaderef05_Dead.l0 k l0 t544 0)
theorem stockaderef05_Dead.mono_l : ∀ k, (∀ y0 y1 y2, LeO (stockaderef05_Dead.l0 k y0 y1 y2) (stockaderef05_Dead.l0 (k + 1) y0 y1 y2))
 | 0 => fun _ _ _ r h => by simp [stockaderef05_Dead.l0] at h
 | k + 1 => by
  have ih0 := stockaderef05_Dead.mono_l k
  ·intro y0 y1 y2
   unfold stockaderef05_Dead.l0
   repeat' first
   | (with_reducible exact ih0 _ _ _)
   | (with_reducible exact stockaderef05_Reached.mono _ _)
   | (with_reducible exact stockaderef05_Start.mono _ _ _)
   | (with_reducible exact LeO.refl _)
   | (with_reducible exact LeO.none _)
   | (with_reducible refine LeO.ite ?_ ?_)
   | (with_reducible refine LeO.bind ?_ (fun _ => ?_))
   | exact ih0 _ _ _
   | exact stockaderef05_Reached.mono _ _
   | exact stockaderef05_Start.mono _ _ _
   | exact LeO.none _
   | refine LeO.ite ?_ ?_
   | refine LeO.bind ?_ (fun _ => ?_)
theorem stockaderef05_Dead.mono : ∀ a0 a1 k, LeO (stockaderef05_Dead.f k a0 a1) (stockaderef05_Dead.f (k + 1) a0 a1) := by
 intro a0 a1 k
 have ih0 := stockaderef05_Dead.mono_l k
 unfold stockaderef05_Dead.f
 repeat' first
   | (with_reducible exact ih0 _ _ _)
   | (with_reducible exact stockaderef05_Reached.mono _ _)
   | (with_reducible exact stockaderef05_Start.mono _ _ _)
   | (with_reducible exact LeO.refl _)
   | (with_reducible exact LeO.none _)
   | (with_reducible refine LeO.ite ?_ ?_)
   | (with_reducible refine LeO.bind ?_ (fun _ => ?_))
   | exact ih0 _ _ _
   | exact stockaderef05_Reached.mono _ _
   | exact stockaderef05_Start.mono _ _ _
   | exact LeO.none _
   | refine LeO.ite ?_ ?_
   | refine LeO.bind ?_ (fun _ => ?_)
set_option maxHeartbeats 8000000 in
set_option maxRecDepth 100000 in
theorem stockaderef05_Dead.calls (k : Nat) (A0 : Option Addr) (c0 : Nat) (l0 : List (S44)) (A1 : Option Addr) (c1 : Nat) (l1 : List (List Int)) (r : Int) (w : World) (hr0 : Kd.C k44 w A0 l0.length l0) (hc0 : l0.length ≤ c0) (hr1 : Kd.C (Kd.slice 3 (Kd.int .i64)) w A1 l1.length l1) (hc1 : l1.length ≤ c1) (h : stockaderef05_Dead.f k l0 l1 = some r) :
  Calls Tryd.prog 24 #[.slice A0 l0.length c0, .slice A1 l1.length c1] w fun e w' => e = .returned (.int .i64 r) ∧ Below w.heap.size w w' := by
 have HR0 := Aside0.mk hr0
 have HC0 := Aside0.mk hc0
 clear hr0 hc0
 have HR1 := Aside0.mk hr1
 have HC1 := Aside0.mk hc1
 clear hr1 hc1
 have HB := Aside0.mk (Below.refl w.heap.size w)
 have H : ((stockaderef05_Reached.f k l1).bind fun t544 => (stockaderef05_Dead.l0 k l0 t544 0)) = some r := h
 clear h
 replace H := Option.bind_eq_some_iff.mp H; obtain ⟨t544, A30, H⟩ := H; try dsimp only at H
 have A3 := Aside0.mk A30
 clear A30
 have H' := Aside0.mk H
 clear H
 go_enter Tryd.func24, Tryd.ntmps24
 go_wp2_with (first | ((with_reducible refine gate_callee (f := 22) rfl ?_); refine sh_call (some 8) Tryd.func22 #[.slice A1 l1.length c1] ?_; (with_reducible refine (stockaderef05_Reached.calls k _ _ l1 t544 _ ?side1 ?side2 A3.out).mono ?_); (case side1 => repeat (first | exact HR1.out | (with_reducible refine Kd.C_alloc ?_ _) | (with_reducible refine Kd.C_drewN ?_ _) | (with_reducible refine Kd.C_drew ?_))); (case side2 => exact HC1.out); rintro e w4 ⟨v545, rfl, ho0, hb⟩; refine ⟨_, rfl, ?_⟩; have HO546 := Aside0.mk (Kd.R_lower ho0 (below_size b_now)); replace HB := sh_b (w := w) hb; (try clear hb); (try clear hb2); (try clear hk); (try clear hi); (try clear ho0)))
 go_loopg [6] k (fun kq v6 w' => ∃ (x6_1 : Int), v6 = .int .i64 x6_1 ∧ Aside0 (stockaderef05_Dead.l0 kq l0 t544 x6_1 = some r) ∧ Aside0 (kq ≤ k) ∧ Aside0 (Kd.R Kd.bool 4 w' w.heap.size (fun _ => True) v545 t544) ∧ Aside0 (Below w.heap.size w w'))
 case atStart => exact ⟨(0), eq_now, H', ⟨Nat.le_refl _⟩, ⟨by (with_reducible repeat (first | apply Kd.R_alloc | apply Kd.R_drewN | apply Kd.R_drew)); exact HO546.out⟩, ⟨b_now⟩⟩
 case round =>
  clear H'
  try clear c1
  try clear c2
  try clear p2
  obtain ⟨x6_1, rfl, HA, HK1, HO_5, HB⟩ := hrel
  cases gk with
  | zero => exact absurd HA.out (by simp [stockaderef05_Dead.l0])
  | succ k1 =>
   have H := HA.out
   clear HA
   simp only [stockaderef05_Dead.l0] at H
   by_cases c5 : x6_1 < (l0.length : Int)
   ·rw [if_pos c5] at H
    have c5b0 : decide (x6_1 < (l0.length : Int)) = true := decide_eq_true c5
    clear c5
    by_cases c6 : 0 ≤ x6_1
    ·rw [if_pos c6] at H
     have c6b0 : decide (0 ≤ x6_1) = true := decide_eq_true c6
     clear c6
     by_cases c7 : x6_1 < (t544.length : Int)
     ·rw [if_pos c7] at H
      have c7b0 : decide (x6_1 < (t544.length : Int)) = true := decide_eq_true c7
      clear c7
      obtain ⟨bq8, hbq8⟩ : ∃ b_ : Bool, b_ = (rdOf false t544 x6_1) := ⟨_, rfl⟩
      replace H : (if bq8 = true then (stockaderef05_Dead.l0 k1 l0 t544 (wrap64 (x6_1 + 1))) else ((stockaderef05_Start.f k1 l0 x6_1).bind fun t548 => (if t548 = true then (some x6_1) else (stockaderef05_Dead.l0 k1 l0 t544 (wrap64 (x6_1 + 1)))))) = some r := by rw [← hbq8] at H; exact H
      have Nbq8 := Aside0.mk hbq8
      clear hbq8
      by_cases c9 : bq8 = true
      ·subst c9
       replace H := sh_t H
       have H' := Aside0.mk H
       clear H
       obtain ⟨Ao10, co10, eo10⟩ := Kd.R_slice HO_5.out
       subst eo10
       have p547 : 0 ≤ (x6_1 : Int) := of_decide_eq_true (by first | (with_reducible assumption) | assumption)
       have q547 : x6_1 < (t544.length : Int) := of_decide_eq_true (by first | (with_reducible assumption) | assumption)
       obtain ⟨ad547, e547, hx547_0⟩ := Kd.at_bool (Kd.R_reads' HO_5.out).2.2 x6_1 p547 q547
       (try rw [← Nbq8.out] at hx547_0)
       cases e547
       replace p547 := eq_true p547
       replace q547 := eq_true q547
       go_wp2
       go_roundg k1
       case measure => have := HK1.out; omega
       case rel => exact ⟨(wrap64 (x6_1 + 1)), eq_now, H', ⟨by have := HK1.out; omega⟩, ⟨by (with_reducible repeat (first | apply Kd.R_alloc | apply Kd.R_drewN | apply Kd.R_drew)); exact HO_5.out⟩, ⟨b_now⟩⟩
      ·replace c9 := Bool.eq_false_iff.mpr c9
       subst c9
       replace H := sh_f H
       replace H := Option.bind_eq_some_iff.mp H; obtain ⟨t548, A110, H⟩ := H; try dsimp only at H
       have A11 := Aside0.mk A110
       clear A110
       by_cases c12 : t548 = true
       ·subst c12
        replace H := sh_t H
        obtain rfl := Option.some.inj H
        obtain ⟨Ao13, co13, eo13⟩ := Kd.R_slice HO_5.out
        subst eo13
        have p547 : 0 ≤ (x6_1 : Int) := of_decide_eq_true (by first | (with_reducible assumption) | assumption)
        have q547 : x6_1 < (t544.length : Int) := of_decide_eq_true (by first | (with_reducible assumption) | assumption)
        obtain ⟨ad547, e547, hx547_0⟩ := Kd.at_bool (Kd.R_reads' HO_5.out).2.2 x6_1 p547 q547
        (try rw [← Nbq8.out] at hx547_0)
        cases e547
        replace p547 := eq_true p547
        replace q547 := eq_true q547
        go_wp2_with (first | (go_at_call 33; (with_reducible refine (stockaderef05_Start.calls k1 _ _ l0 x6_1 true _ ?side1 ?side2 A11.out).mono ?_); (case side1 => repeat (first | exact (Kd.C_below HR0.out HB.out) | (with_reducible refine Kd.C_alloc ?_ _) | (with_reducible refine Kd.C_drewN ?_ _) | (with_reducible refine Kd.C_drew ?_))); (case side2 => exact HC0.out); rintro e w14 ⟨rfl, hb⟩; replace HO_5 := Aside0.mk (Kd.R_below (by (with_reducible repeat (first | apply Kd.R_alloc | apply Kd.R_drewN | apply Kd.R_drew)); exact HO_5.out) hb); replace HB := sh_b (w := w) hb; (try clear hb); (try clear hb2); (try clear hk); (try clear hi)))
        go_ret
        exact ⟨ret_now, b_now⟩
       ·replace c12 := Bool.eq_false_iff.mpr c12
        subst c12
        replace H := sh_f H
        have H' := Aside0.mk H
        clear H
        obtain ⟨Ao15, co15, eo15⟩ := Kd.R_slice HO_5.out
        subst eo15
        have p547 : 0 ≤ (x6_1 : Int) := of_decide_eq_true (by first | (with_reducible assumption) | assumption)
        have q547 : x6_1 < (t544.length : Int) := of_decide_eq_true (by first | (with_reducible assumption) | assumption)
        obtain ⟨ad547, e547, hx547_0⟩ := Kd.at_bool (Kd.R_reads' HO_5.out).2.2 x6_1 p547 q547
        (try rw [← Nbq8.out] at hx547_0)
        cases e547
        replace p547 := eq_true p547
        replace q547 := eq_true q547
        go_wp2_with (first | (go_at_call 33; (with_reducible refine (stockaderef05_Start.calls k1 _ _ l0 x6_1 false _ ?side1 ?side2 A11.out).mono ?_); (case side1 => repeat (first | exact (Kd.C_below HR0.out HB.out) | (with_reducible refine Kd.C_alloc ?_ _) | (with_reducible refine Kd.C_drewN ?_ _) | (with_reducible refine Kd.C_drew ?_))); (case side2 => exact HC0.out); rintro e w16 ⟨rfl, hb⟩; replace HO_5 := Aside0.mk (Kd.R_below (by (with_reducible repeat (first | apply Kd.R_alloc | apply Kd.R_drewN | apply Kd.R_drew)); exact HO_5.out) hb); replace HB := sh_b (w := w) hb; (try clear hb); (try clear hb2); (try clear hk); (try clear hi)))
        go_roundg k1
        case measure => have := HK1.out; omega
        case rel => exact ⟨(wrap64 (x6_1 + 1)), eq_now, H', ⟨by have := HK1.out; omega⟩, ⟨by (with_reducible repeat (first | apply Kd.R_alloc | apply Kd.R_drewN | apply Kd.R_drew)); exact HO_5.out⟩, ⟨b_now⟩⟩
     ·rw [if_neg c7] at H
      exact absurd H (by simp)
    ·rw [if_neg c6] at H
     exact absurd H (by simp)
   ·rw [if_neg c5] at H
    have c5b0 : decide (x6_1 < (l0.length : Int)) = false := decide_eq_false c5
    clear c5
    obtain rfl := Option.some.inj H
    go_wp2
    go_ret
    exact ⟨ret_now, b_now⟩

end Go.Proofs.YtkjcjlegokdpdaaDoor.P
