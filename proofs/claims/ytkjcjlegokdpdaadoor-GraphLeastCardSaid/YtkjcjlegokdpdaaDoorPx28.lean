/- Made by this session's driver over the kit's printer: for each Go function a Lean function with the same answers, and a proof that the Go call comes to these answers; no conditions but the ones each theorem names. -/
import Derived.Test.YtkjcjlegokdpdaaDoorPx0
import Derived.Test.YtkjcjlegokdpdaaDoorPx7
import Derived.Test.YtkjcjlegokdpdaaDoorPx10
import Derived.Test.YtkjcjlegokdpdaaDoorPx24
import Derived.Test.YtkjcjlegokdpdaaDoorPx27
import Derived.Test.YtkjcjlegokdpdaaDoorPxXXOr
namespace Go.Proofs.YtkjcjlegokdpdaaDoor.P
open Go.RowKit Go.Proofs.YtkjcjlegokdpdaaDoorW.PrintWords Go.Proofs.YtkjcjlegokdpdaaDoorW.PrintLast Go.Proofs.YtkjcjlegokdpdaaDoorW.PrintMore
attribute [local go_sem] max2_int min2_int max_two min_two max_three min_three max_four min_four   -- for this text's walks alone
set_option linter.unusedVariables false
set_option linter.unusedSimpArgs false

/-! ### stockadelaw05_GraphLeast: function 7 -/
mutual
def stockadelaw05_GraphLeast.j0 : Nat → List (S44) → List Int → Int → List Bool → Bool → Option (Bool)
 | 0, _, _, _, _, _ => none
 | k + 1, x0, x3, x4, x5, x41 => if x41 = true then (some false) else (stockadelaw05_GraphLeast.l0 k x0 x3 x4 x5 ([] : List (List Int)) 0)
def stockadelaw05_GraphLeast.l0 : Nat → List (S44) → List Int → Int → List Bool → List (List Int) → Int → Option (Bool)
 | 0, _, _, _, _, _, _ => none
 | k + 1, x0, x3, x4, x5, x6, x7 => if x7 < (x0.length : Int) then ((graph_Next.f k x0 x7).bind fun t588 => (if x6.length < 5864062014805 then (stockadelaw05_GraphLeast.l0 k x0 x3 x4 x5 (x6 ++ [t588]) (wrap64 (x7 + 1))) else (none))) else (if 0 ≤ (x0.length : Int) then (if ((x0.length : Int) : Int).toNat ≤ 281474976710656 then (stockadelaw05_GraphLeast.l1 k x0 x3 x4 x5 x6 (List.replicate ((x0.length : Int) : Int).toNat false) 0) else (none)) else (none))
def stockadelaw05_GraphLeast.j3 : Nat → List (S44) → Int → List Bool → List Bool → Option (Bool)
 | 0, _, _, _, _ => none
 | k + 1, x0, x4, x5, x8 => stockadelaw05_GraphLeast.l2 k x0 x4 x5 x8 0 0
def stockadelaw05_GraphLeast.l2 : Nat → List (S44) → Int → List Bool → List Bool → Int → Int → Option (Bool)
 | 0, _, _, _, _, _, _ => none
 | k + 1, x0, x4, x5, x8, x11, x12 => if x12 < (x0.length : Int) then (if 0 ≤ x12 then (if x12 < (x5.length : Int) then (if rdOf false x5 x12 = true then (if x12 < (x8.length : Int) then (if rdOf false x8 x12 = true then (stockadelaw05_GraphLeast.l2 k x0 x4 x5 x8 x11 (wrap64 (x12 + 1))) else (stockadelaw05_GraphLeast.l2 k x0 x4 x5 x8 (wrap64 (x11 + 1)) (wrap64 (x12 + 1)))) else (none)) else (stockadelaw05_GraphLeast.l2 k x0 x4 x5 x8 x11 (wrap64 (x12 + 1)))) else (none)) else (none)) else (if ((x4 == 0) == (x11 == 0)) = true then ((stockadelaw05_wakes.f k).bind fun t603 => (some t603)) else (some false))
def stockadelaw05_GraphLeast.l1 : Nat → List (S44) → List Int → Int → List Bool → List (List Int) → List Bool → Int → Option (Bool)
 | 0, _, _, _, _, _, _, _ => none
 | k + 1, x0, x3, x4, x5, x6, x8, x9 => if x9 ≤ (x0.length : Int) then ((stockadelaw05_free.f k x6 x5 x8).bind fun t597 => (if t597 < 0 then (stockadelaw05_GraphLeast.j3 k x0 x4 x5 x8) else (if x4 = 0 then (if x9 ≥ (x3.length : Int) then (some false) else (if 0 ≤ x9 then (if x9 < (x3.length : Int) then (if (rd x3 x9) = t597 then (if 0 ≤ t597 then (if t597 < (x8.length : Int) then (stockadelaw05_GraphLeast.l1 k x0 x3 x4 x5 x6 (x8.set (t597 : Int).toNat true) (wrap64 (x9 + 1))) else (none)) else (none)) else (some false)) else (none)) else (none))) else (if 0 ≤ t597 then (if t597 < (x8.length : Int) then (stockadelaw05_GraphLeast.l1 k x0 x3 x4 x5 x6 (x8.set (t597 : Int).toNat true) (wrap64 (x9 + 1))) else (none)) else (none))))) else (stockadelaw05_GraphLeast.j3 k x0 x4 x5 x8)
end
def stockadelaw05_GraphLeast.f (k : Nat) (l0 : List (S44)) : Option (Bool) := if (l0.length : Int) > 130 then ((stockadelaw05_wakes.f k).bind fun t580 => (some t580)) else ((graph_Order.f l0).bind fun bt581 => ((graph_Reached.f k l0).bind fun t585 => (if (t585.length : Int) = (l0.length : Int) then (if bt581.2 = 0 then (stockadelaw05_GraphLeast.j0 k l0 bt581.1 bt581.2 t585 false) else (if bt581.2 = 28 then (stockadelaw05_GraphLeast.j0 k l0 bt581.1 bt581.2 t585 (decide ((bt581.1.length : Int) > 0))) else (stockadelaw05_GraphLeast.j0 k l0 bt581.1 bt581.2 t585 true))) else (stockadelaw05_GraphLeast.j0 k l0 bt581.1 bt581.2 t585 true))))
theorem stockadelaw05_GraphLeast.mono_l : ∀ k, (∀ y0 y1 y2 y3 y4, LeO (stockadelaw05_GraphLeast.j0 k y0 y1 y2 y3 y4) (stockadelaw05_GraphLeast.j0 (k + 1) y0 y1 y2 y3 y4)) ∧ (∀ y0 y1 y2 y3 y4 y5, LeO (stockadelaw05_GraphLeast.l0 k y0 y1 y2 y3 y4 y5) (stockadelaw05_GraphLeast.l0 (k + 1) y0 y1 y2 y3 y4 y5)) ∧ (∀ y0 y1 y2 y3, LeO (stockadelaw05_GraphLeast.j3 k y0 y1 y2 y3) (stockadelaw05_GraphLeast.j3 (k + 1) y0 y1 y2 y3)) ∧ (∀ y0 y1 y2 y3 y4 y5, LeO (stockadelaw05_GraphLeast.l2 k y0 y1 y2 y3 y4 y5) (stockadelaw05_GraphLeast.l2 (k + 1) y0 y1 y2 y3 y4 y5)) ∧ (∀ y0 y1 y2 y3 y4 y5 y6, LeO (stockadelaw05_GraphLeast.l1 k y0 y1 y2 y3 y4 y5 y6) (stockadelaw05_GraphLeast.l1 (k + 1) y0 y1 y2 y3 y4 y5 y6))
 | 0 => ⟨fun _ _ _ _ _ r h => by simp [stockadelaw05_GraphLeast.j0] at h, fun _ _ _ _ _ _ r h => by simp [stockadelaw05_GraphLeast.l0] at h, fun _ _ _ _ r h => by simp [stockadelaw05_GraphLeast.j3] at h, fun _ _ _ _ _ _ r h => by simp [stockadelaw05_GraphLeast.l2] at h, fun _ _ _ _ _ _ _ r h => by simp [stockadelaw05_GraphLeast.l1] at h⟩
 | k + 1 => by
  obtain ⟨ih0, ih1, ih2, ih3, ih4⟩ := stockadelaw05_GraphLeast.mono_l k
  refine ⟨?_, ?_, ?_, ?_, ?_⟩
  ·intro y0 y1 y2 y3 y4
   unfold stockadelaw05_GraphLeast.j0
   repeat' first
   | (with_reducible exact ih0 _ _ _ _ _)
   | (with_reducible exact ih1 _ _ _ _ _ _)
   | (with_reducible exact ih2 _ _ _ _)
   | (with_reducible exact ih3 _ _ _ _ _ _)
   | (with_reducible exact ih4 _ _ _ _ _ _ _)
   | (with_reducible exact graph_Next.mono _ _ _)
   | (with_reducible exact graph_Reached.mono _ _)
   | (with_reducible exact stockadelaw05_free.mono _ _ _ _)
   | (with_reducible exact stockadelaw05_wakes.mono _)
   | (with_reducible exact LeO.refl _)
   | (with_reducible exact LeO.none _)
   | (with_reducible refine LeO.ite ?_ ?_)
   | (with_reducible refine LeO.bind ?_ (fun _ => ?_))
   | exact ih0 _ _ _ _ _
   | exact ih1 _ _ _ _ _ _
   | exact ih2 _ _ _ _
   | exact ih3 _ _ _ _ _ _
   | exact ih4 _ _ _ _ _ _ _
   | exact graph_Next.mono _ _ _
   | exact graph_Reached.mono _ _
   | exact stockadelaw05_free.mono _ _ _ _
   | exact stockadelaw05_wakes.mono _
   | exact LeO.none _
   | refine LeO.ite ?_ ?_
   | refine LeO.bind ?_ (fun _ => ?_)
  ·intro y0 y1 y2 y3 y4 y5
   unfold stockadelaw05_GraphLeast.l0
   repeat' first
   | (with_reducible exact ih0 _ _ _ _ _)
   | (with_reducible exact ih1 _ _ _ _ _ _)
   | (with_reducible exact ih2 _ _ _ _)
   | (with_reducible exact ih3 _ _ _ _ _ _)
   | (with_reducible exact ih4 _ _ _ _ _ _ _)
   | (with_reducible exact graph_Next.mono _ _ _)
   | (with_reducible exact graph_Reached.mono _ _)
   | (with_reducible exact stockadelaw05_free.mono _ _ _ _)
   | (with_reducible exact stockadelaw05_wakes.mono _)
   | (with_reducible exact LeO.refl _)
   | (with_reducible exact LeO.none _)
   | (with_reducible refine LeO.ite ?_ ?_)
   | (with_reducible refine LeO.bind ?_ (fun _ => ?_))
   | exact ih0 _ _ _ _ _
   | exact ih1 _ _ _ _ _ _
   | exact ih2 _ _ _ _
   | exact ih3 _ _ _ _ _ _
   | exact ih4 _ _ _ _ _ _ _
   | exact graph_Next.mono _ _ _
   | exact graph_Reached.mono _ _
   | exact stockadelaw05_free.mono _ _ _ _
   | exact stockadelaw05_wakes.mono _
   | exact LeO.none _
   | refine LeO.ite ?_ ?_
   | refine LeO.bind ?_ (fun _ => ?_)
  ·intro y0 y1 y2 y3
   unfold stockadelaw05_GraphLeast.j3
   repeat' first
   | (with_reducible exact ih0 _ _ _ _ _)
   | (with_reducible exact ih1 _ _ _ _ _ _)
   | (with_reducible exact ih2 _ _ _ _)
   | (with_reducible exact ih3 _ _ _ _ _ _)
   | (with_reducible exact ih4 _ _ _ _ _ _ _)
   | (with_reducible exact graph_Next.mono _ _ _)
   | (with_reducible exact graph_Reached.mono _ _)
   | (with_reducible exact stockadelaw05_free.mono _ _ _ _)
   | (with_reducible exact stockadelaw05_wakes.mono _)
   | (with_reducible exact LeO.refl _)
   | (with_reducible exact LeO.none _)
   | (with_reducible refine LeO.ite ?_ ?_)
   | (with_reducible refine LeO.bind ?_ (fun _ => ?_))
   | exact ih0 _ _ _ _ _
   | exact ih1 _ _ _ _ _ _
   | exact ih2 _ _ _ _
   | exact ih3 _ _ _ _ _ _
   | exact ih4 _ _ _ _ _ _ _
   | exact graph_Next.mono _ _ _
   | exact graph_Reached.mono _ _
   | exact stockadelaw05_free.mono _ _ _ _
   | exact stockadelaw05_wakes.mono _
   | exact LeO.none _
   | refine LeO.ite ?_ ?_
   | refine LeO.bind ?_ (fun _ => ?_)
  ·intro y0 y1 y2 y3 y4 y5
   unfold stockadelaw05_GraphLeast.l2
   repeat' first
   | (with_reducible exact ih0 _ _ _ _ _)
   | (with_reducible exact ih1 _ _ _ _ _ _)
   | (with_reducible exact ih2 _ _ _ _)
   | (with_reducible exact ih3 _ _ _ _ _ _)
   | (with_reducible exact ih4 _ _ _ _ _ _ _)
   | (with_reducible exact graph_Next.mono _ _ _)
   | (with_reducible exact graph_Reached.mono _ _)
   | (with_reducible exact stockadelaw05_free.mono _ _ _ _)
   | (with_reducible exact stockadelaw05_wakes.mono _)
   | (with_reducible exact LeO.refl _)
   | (with_reducible exact LeO.none _)
   | (with_reducible refine LeO.ite ?_ ?_)
   | (with_reducible refine LeO.bind ?_ (fun _ => ?_))
   | exact ih0 _ _ _ _ _
   | exact ih1 _ _ _ _ _ _
   | exact ih2 _ _ _ _
   | exact ih3 _ _ _ _ _ _
   | exact ih4 _ _ _ _ _ _ _
   | exact graph_Next.mono _ _ _
   | exact graph_Reached.mono _ _
   | exact stockadelaw05_free.mono _ _ _ _
   | exact stockadelaw05_wakes.mono _
   | exact LeO.none _
   | refine LeO.ite ?_ ?_
   | refine LeO.bind ?_ (fun _ => ?_)
  ·intro y0 y1 y2 y3 y4 y5 y6
   unfold stockadelaw05_GraphLeast.l1
   repeat' first
   | (with_reducible exact ih0 _ _ _ _ _)
   | (with_reducible exact ih1 _ _ _ _ _ _)
   | (with_reducible exact ih2 _ _ _ _)
   | (with_reducible exact ih3 _ _ _ _ _ _)
   | (with_reducible exact ih4 _ _ _ _ _ _ _)
   | (with_reducible exact graph_Next.mono _ _ _)
   | (with_reducible exact graph_Reached.mono _ _)
   | (with_reducible exact stockadelaw05_free.mono _ _ _ _)
   | (with_reducible exact stockadelaw05_wakes.mono _)
   | (with_reducible exact LeO.refl _)
   | (with_reducible exact LeO.none _)
   | (with_reducible refine LeO.ite ?_ ?_)
   | (with_reducible refine LeO.bind ?_ (fun _ => ?_))
   | exact ih0 _ _ _ _ _
   | exact ih1 _ _ _ _ _ _
   | exact ih2 _ _ _ _
   | exact ih3 _ _ _ _ _ _
   | exact ih4 _ _ _ _ _ _ _
   | exact graph_Next.mono _ _ _
   | exact graph_Reached.mono _ _
   | exact stockadelaw05_free.mono _ _ _ _
   | exact stockadelaw05_wakes.mono _
   | exact LeO.none _
   | refine LeO.ite ?_ ?_
   | refine LeO.bind ?_ (fun _ => ?_)
theorem stockadelaw05_GraphLeast.mono : ∀ a0 k, LeO (stockadelaw05_GraphLeast.f k a0) (stockadelaw05_GraphLeast.f (k + 1) a0) := by
 intro a0 k
 obtain ⟨ih0, ih1, ih2, ih3, ih4⟩ := stockadelaw05_GraphLeast.mono_l k
 unfold stockadelaw05_GraphLeast.f
 repeat' first
   | (with_reducible exact ih0 _ _ _ _ _)
   | (with_reducible exact ih1 _ _ _ _ _ _)
   | (with_reducible exact ih2 _ _ _ _)
   | (with_reducible exact ih3 _ _ _ _ _ _)
   | (with_reducible exact ih4 _ _ _ _ _ _ _)
   | (with_reducible exact graph_Next.mono _ _ _)
   | (with_reducible exact graph_Reached.mono _ _)
   | (with_reducible exact stockadelaw05_free.mono _ _ _ _)
   | (with_reducible exact stockadelaw05_wakes.mono _)
   | (with_reducible exact LeO.refl _)
   | (with_reducible exact LeO.none _)
   | (with_reducible refine LeO.ite ?_ ?_)
   | (with_reducible refine LeO.bind ?_ (fun _ => ?_))
   | exact ih0 _ _ _ _ _
   | exact ih1 _ _ _ _ _ _
   | exact ih2 _ _ _ _
   | exact ih3 _ _ _ _ _ _
   | exact ih4 _ _ _ _ _ _ _
   | exact graph_Next.mono _ _ _
   | exact graph_Reached.mono _ _
   | exact stockadelaw05_free.mono _ _ _ _
   | exact stockadelaw05_wakes.mono _
   | exact LeO.none _
   | refine LeO.ite ?_ ?_
   | refine LeO.bind ?_ (fun _ => ?_)
set_option maxHeartbeats 8000000 in
set_option maxRecDepth 100000 in
theorem stockadelaw05_GraphLeast.calls (k : Nat) (A0 : Option Addr) (c0 : Nat) (l0 : List (S44)) (r : Bool) (w : World) (hr0 : Kd.C k44 w A0 l0.length l0) (hc0 : l0.length ≤ c0) (hrG0 : Kd.C (Kd.int .i64) w (some ⟨0, 0, none⟩) gl0.length gl0) (hr_ : r = true) (h : stockadelaw05_GraphLeast.f k l0 = some r) :
  Calls Tryd.prog 7 #[.slice A0 l0.length c0] w fun e w' => e = .returned (.bool r) ∧ Below w.heap.size w w' := by
 have HR0 := Aside0.mk hr0
 have HC0 := Aside0.mk hc0
 clear hr0 hc0
 have HRG0 := Aside0.mk hrG0
 clear hrG0
 have HRT := Aside0.mk hr_
 clear hr_
 have HB := Aside0.mk (Below.refl w.heap.size w)
 have H : (if (l0.length : Int) > 130 then ((stockadelaw05_wakes.f k).bind fun t580 => (some t580)) else ((graph_Order.f l0).bind fun bt581 => ((graph_Reached.f k l0).bind fun t585 => (if (t585.length : Int) = (l0.length : Int) then (if bt581.2 = 0 then (stockadelaw05_GraphLeast.j0 k l0 bt581.1 bt581.2 t585 false) else (if bt581.2 = 28 then (stockadelaw05_GraphLeast.j0 k l0 bt581.1 bt581.2 t585 (decide ((bt581.1.length : Int) > 0))) else (stockadelaw05_GraphLeast.j0 k l0 bt581.1 bt581.2 t585 true))) else (stockadelaw05_GraphLeast.j0 k l0 bt581.1 bt581.2 t585 true))))) = some r := h
 clear h
 by_cases c2 : (l0.length : Int) > 130
 ·rw [if_pos c2] at H
  have c2b0 : decide (130 < (l0.length : Int)) = true := decide_eq_true c2
  have c2b1 : decide (130 < l0.length) = true := decide_eq_true (by omega)
  clear c2
  replace H := Option.bind_eq_some_iff.mp H; obtain ⟨t580, A30, H⟩ := H; try dsimp only at H
  have A3 := Aside0.mk A30
  clear A30
  obtain rfl := Option.some.inj H
  go_enter Tryd.func7, Tryd.ntmps7
  go_wp2_with (first | ((with_reducible refine gate_callee (f := 10) rfl ?_); refine sh_call (some 16) Tryd.func10 #[] ?_; (with_reducible refine (stockadelaw05_wakes.calls k  t580 _ ?side1 (by first | rfl | exact HRT.out) A3.out).mono ?_); (case side1 => repeat (first | exact HRG0.out | (with_reducible refine Kd.C_alloc ?_ _) | (with_reducible refine Kd.C_drewN ?_ _) | (with_reducible refine Kd.C_drew ?_))); rintro e w4 ⟨rfl, hb⟩; refine ⟨_, rfl, ?_⟩; replace HB := sh_b (w := w) hb; (try clear hb); (try clear hb2); (try clear hk); (try clear hi)))
  go_ret
  exact ⟨ret_now, b_now⟩
 ·rw [if_neg c2] at H
  have c2b0 : decide (130 < (l0.length : Int)) = false := decide_eq_false c2
  have c2b1 : decide (130 < l0.length) = false := decide_eq_false (by omega)
  clear c2
  replace H := Option.bind_eq_some_iff.mp H; obtain ⟨⟨t581, t582⟩, A50, H⟩ := H; try dsimp only at H
  have A5 := Aside0.mk A50
  clear A50
  replace H := Option.bind_eq_some_iff.mp H; obtain ⟨t585, A60, H⟩ := H; try dsimp only at H
  have A6 := Aside0.mk A60
  clear A60
  have HC7 := Aside0.mk H
  clear H
  go_enter Tryd.func7, Tryd.ntmps7
  go_upto_region 5 with (first | ((with_reducible refine gate_callee (f := 16) rfl ?_); refine sh_call (some 19) Tryd.func16 #[.slice A0 l0.length c0] ?_; (with_reducible refine (graph_Order.calls _ _ l0 t581 t582 _ ?side1 ?side2 ?side3 A5.out).mono ?_); (case side1 => repeat (first | exact HR0.out | (with_reducible refine Kd.C_alloc ?_ _) | (with_reducible refine Kd.C_drewN ?_ _) | (with_reducible refine Kd.C_drew ?_))); (case side2 => exact HC0.out); (case side3 => repeat (first | exact HRG0.out | (with_reducible refine Kd.C_alloc ?_ _) | (with_reducible refine Kd.C_drewN ?_ _) | (with_reducible refine Kd.C_drew ?_))); rintro e w8 ⟨v583, rfl, ho0, hb⟩; refine ⟨_, rfl, ?_⟩; have HO584 := Aside0.mk (Kd.R_lower ho0 (below_size b_now)); replace HB := sh_b (w := w) hb; (try clear hb); (try clear hb2); (try clear hk); (try clear hi); (try clear ho0)) | ((with_reducible refine gate_callee (f := 21) rfl ?_); refine sh_call (some 23) Tryd.func21 #[.slice A0 l0.length c0] ?_; (with_reducible refine (graph_Reached.calls k _ _ l0 t585 _ ?side1 ?side2 ?side3 A6.out).mono ?_); (case side1 => repeat (first | exact (Kd.C_below HR0.out HB.out) | (with_reducible refine Kd.C_alloc ?_ _) | (with_reducible refine Kd.C_drewN ?_ _) | (with_reducible refine Kd.C_drew ?_))); (case side2 => exact HC0.out); (case side3 => repeat (first | exact (Kd.C_below HRG0.out HB.out) | (with_reducible refine Kd.C_alloc ?_ _) | (with_reducible refine Kd.C_drewN ?_ _) | (with_reducible refine Kd.C_drew ?_))); rintro e w9 ⟨v586, rfl, ho0, hb⟩; refine ⟨_, rfl, ?_⟩; have HO587 := Aside0.mk (Kd.R_lower ho0 (below_size b_now)); replace HO584 := Aside0.mk (Kd.R_below (by (with_reducible repeat (first | apply Kd.R_alloc | apply Kd.R_drewN | apply Kd.R_drew)); exact HO584.out) hb); replace HB := sh_b (w := w) hb; (try clear hb); (try clear hb2); (try clear hk); (try clear hi); (try clear ho0)))
  (try simp only [Act.put, List.setIfInBounds_toArray, List.set_cons_zero, List.set_cons_succ])
  go_cut [41] (fun v41 wc => ∃ (kq : Nat) (x41_6 : Bool), v41 = .bool x41_6 ∧ Aside0 (stockadelaw05_GraphLeast.j0 kq l0 t581 t582 t585 x41_6 = some r) ∧ Aside0 (kq ≤ k) ∧ Aside0 (Kd.R (Kd.int .i64) 3 wc w.heap.size (fun _ => True) v583 t581) ∧ Aside0 (Kd.R Kd.bool 4 wc w.heap.size (fun _ => True) v586 t585) ∧ Aside0 (Below w.heap.size w wc))
  case first =>
   have H := HC7.out
   clear HC7
   by_cases c10 : (t585.length : Int) = (l0.length : Int)
   ·rw [if_pos c10] at H
    have c10b0 : ((t585.length : Int) == (l0.length : Int)) = true := beq_iff_eq.mpr c10
    have c10b1 : ((t585.length : Int) != (l0.length : Int)) = false := bne_eq_false_iff_eq.mpr c10
    have c10b2 : (t585.length == l0.length) = true := by first | simpa using c10 | (simp at c10 ⊢; omega)
    clear c10
    (first | rw [c10b0] | (simp only [i64_w, i32_w]; rw [c10b0]) | skip)
    by_cases c11 : t582 = 0
    ·rw [if_pos c11] at H
     have c11b0 : (t582 == 0) = true := beq_iff_eq.mpr c11
     have c11b1 : (t582 != 0) = false := bne_eq_false_iff_eq.mpr c11
     clear c11
     have H' := Aside0.mk H
     clear H
     obtain ⟨Ao12, co12, eo12⟩ := Kd.R_slice HO587.out
     subst eo12
     go_wp2
     go_meet
     case rel => exact ⟨_, (false), eq_now, H', ⟨by first | omega | exact Nat.le_refl _⟩, ⟨by (with_reducible repeat (first | apply Kd.R_alloc | apply Kd.R_drewN | apply Kd.R_drew)); exact HO584.out⟩, ⟨by (with_reducible repeat (first | apply Kd.R_alloc | apply Kd.R_drewN | apply Kd.R_drew)); exact HO587.out⟩, ⟨b_now⟩⟩
    ·rw [if_neg c11] at H
     have c11b0 : (t582 == 0) = false := beq_eq_false_iff_ne.mpr c11
     have c11b1 : (t582 != 0) = true := bne_iff_ne.mpr c11
     by_cases c13 : t582 = 28
     ·rw [if_pos c13] at H
      have c13b0 : (t582 == 28) = true := beq_iff_eq.mpr c13
      have c13b1 : (t582 != 28) = false := bne_eq_false_iff_eq.mpr c13
      clear c13
      have H' := Aside0.mk H
      clear H
      obtain ⟨Ao14, co14, eo14⟩ := Kd.R_slice HO587.out
      subst eo14
      obtain ⟨Ao15, co15, eo15⟩ := Kd.R_slice HO584.out
      subst eo15
      go_wp2
      go_meet
      case rel => exact ⟨_, (decide ((t581.length : Int) > 0)), eq_now, H', ⟨by first | omega | exact Nat.le_refl _⟩, ⟨by (with_reducible repeat (first | apply Kd.R_alloc | apply Kd.R_drewN | apply Kd.R_drew)); exact HO584.out⟩, ⟨by (with_reducible repeat (first | apply Kd.R_alloc | apply Kd.R_drewN | apply Kd.R_drew)); exact HO587.out⟩, ⟨b_now⟩⟩
     ·rw [if_neg c13] at H
      have c13b0 : (t582 == 28) = false := beq_eq_false_iff_ne.mpr c13
      have c13b1 : (t582 != 28) = true := bne_iff_ne.mpr c13
      have H' := Aside0.mk H
      clear H
      obtain ⟨Ao16, co16, eo16⟩ := Kd.R_slice HO587.out
      subst eo16
      go_wp2
      go_meet
      case rel => exact ⟨_, (true), eq_now, H', ⟨by first | omega | exact Nat.le_refl _⟩, ⟨by (with_reducible repeat (first | apply Kd.R_alloc | apply Kd.R_drewN | apply Kd.R_drew)); exact HO584.out⟩, ⟨by (with_reducible repeat (first | apply Kd.R_alloc | apply Kd.R_drewN | apply Kd.R_drew)); exact HO587.out⟩, ⟨b_now⟩⟩
   ·rw [if_neg c10] at H
    have c10b0 : ((t585.length : Int) == (l0.length : Int)) = false := beq_eq_false_iff_ne.mpr c10
    have c10b1 : ((t585.length : Int) != (l0.length : Int)) = true := bne_iff_ne.mpr c10
    have c10b2 : (t585.length == l0.length) = false := by first | simpa using c10 | (simp at c10 ⊢; omega)
    (first | rw [c10b0] | (simp only [i64_w, i32_w]; rw [c10b0]) | skip)
    have H' := Aside0.mk H
    clear H
    obtain ⟨Ao17, co17, eo17⟩ := Kd.R_slice HO587.out
    subst eo17
    go_wp2
    go_meet
    case rel => exact ⟨_, (true), eq_now, H', ⟨by first | omega | exact Nat.le_refl _⟩, ⟨by (with_reducible repeat (first | apply Kd.R_alloc | apply Kd.R_drewN | apply Kd.R_drew)); exact HO584.out⟩, ⟨by (with_reducible repeat (first | apply Kd.R_alloc | apply Kd.R_drewN | apply Kd.R_drew)); exact HO587.out⟩, ⟨b_now⟩⟩
  case rest =>
   clear HC7
   try clear c1
   try clear c2
   try clear c2b0
   try clear c2b1
   try clear p2
   try clear c7
   try clear c10
   try clear c10b0
   try clear c10b1
   try clear c10b2
   try clear c11
   try clear c11b0
   try clear c11b1
   try clear c13
   try clear c13b0
   try clear c13b1
   try clear c16
   obtain ⟨kq, x41_6, rfl, HA, HJ6, HO_3, HO_5, HB⟩ := hcut
   cases kq with
   | zero => exact absurd HA.out (by simp [stockadelaw05_GraphLeast.j0])
   | succ kj6 =>
    have H := HA.out
    clear HA
    simp only [stockadelaw05_GraphLeast.j0] at H
    by_cases c18 : x41_6 = true
    ·subst c18
     replace H := sh_t H
     obtain rfl := Option.some.inj H
     exact absurd HRT.out (by simp)
    ·replace c18 := Bool.eq_false_iff.mpr c18
     subst c18
     replace H := sh_f H
     have H' := Aside0.mk H
     clear H
     go_wp2
     go_loopg [6, 7] kj6 (fun kq v6 v7 w' => ∃ (x6_2 : List (List Int)) (x7_2 : Int), v7 = .int .i64 x7_2 ∧ Aside0 (stockadelaw05_GraphLeast.l0 kq l0 t581 t582 t585 x6_2 x7_2 = some r) ∧ Aside0 (kq ≤ kj6) ∧ Aside0 (Kd.R (Kd.int .i64) 3 w' w.heap.size (fun _ => True) v583 t581) ∧ Aside0 (Kd.R Kd.bool 4 w' w.heap.size (fun _ => True) v586 t585) ∧ Aside0 (Kd.S (Kd.slice 3 (Kd.int .i64)) 25 w' w.heap.size (fun k_ => some k_ ≠ (v583 : Value).ownBlock) v6 x6_2) ∧ Aside0 (Below w.heap.size w w'))
     case atStart => exact ⟨(([] : List (List Int))), (0), eq_now, H', ⟨Nat.le_refl _⟩, ⟨by (with_reducible repeat (first | apply Kd.R_alloc | apply Kd.R_drewN | apply Kd.R_drew)); exact HO_3.out⟩, ⟨by (with_reducible repeat (first | apply Kd.R_alloc | apply Kd.R_drewN | apply Kd.R_drew)); exact HO_5.out⟩, ⟨by first | exact Kd.S_nil _ _ _ _ _ | exact Kd.N_nil _ _ _ _ _ | exact Kd.V_nil _ _ _ _ _ | exact Kd.Q_nil _ _ _ _ _ | exact Kd.R_nil _ _ _ _ _⟩, ⟨b_now⟩⟩
     case round =>
      clear H'
      try clear c1
      try clear c2
      try clear c2b0
      try clear c2b1
      try clear p2
      try clear c7
      try clear c10
      try clear c10b0
      try clear c10b1
      try clear c10b2
      try clear c11
      try clear c11b0
      try clear c11b1
      try clear c13
      try clear c13b0
      try clear c13b1
      try clear c16
      try clear c18
      try clear p2
      obtain ⟨x6_2, x7_2, rfl, HA, HK2, HO_3, HO_5, HO_6, HB⟩ := hrel
      cases gk with
      | zero => exact absurd HA.out (by simp [stockadelaw05_GraphLeast.l0])
      | succ k2 =>
       have H := HA.out
       clear HA
       simp only [stockadelaw05_GraphLeast.l0] at H
       by_cases c19 : x7_2 < (l0.length : Int)
       ·rw [if_pos c19] at H
        have c19b0 : decide (x7_2 < (l0.length : Int)) = true := decide_eq_true c19
        clear c19
        replace H := Option.bind_eq_some_iff.mp H; obtain ⟨t588, A200, H⟩ := H; try dsimp only at H
        have A20 := Aside0.mk A200
        clear A200
        by_cases c21 : x6_2.length < 5864062014805
        ·rw [if_pos c21] at H
         have LMc21 := Aside0.mk c21
         clear c21
         obtain ⟨y591, hy591⟩ : ∃ y_ : List (List Int), y_ = (x6_2 ++ [t588]) := ⟨_, rfl⟩
         replace H : (stockadelaw05_GraphLeast.l0 k2 l0 t581 t582 t585 y591 (wrap64 (x7_2 + 1))) = some r := by first | (rw [hy591]; with_reducible exact H) | (have H2_ := (Option.bind_some _ _).symm.trans H; rw [hy591]; with_reducible exact H2_) | (have H2_ := (Option.bind_some _ _).symm.trans H; with_reducible exact H2_) | with_reducible exact H | (rw [hy591]; exact H) | exact H
         have Ny591 := Aside0.mk hy591
         clear hy591
         have H' := Aside0.mk H
         clear H
         go_wp2_with (first | ((with_reducible refine gate_callee (f := 12) rfl ?_); refine sh_call (some 51) Tryd.func12 #[.slice A0 l0.length c0, .int .i64 x7_2] ?_; (with_reducible refine (graph_Next.calls k2 _ _ l0 x7_2 t588 _ ?side1 ?side2 ?side3 A20.out).mono ?_); (case side1 => repeat (first | exact (Kd.C_below HR0.out HB.out) | (with_reducible refine Kd.C_alloc ?_ _) | (with_reducible refine Kd.C_drewN ?_ _) | (with_reducible refine Kd.C_drew ?_))); (case side2 => exact HC0.out); (case side3 => repeat (first | exact (Kd.C_below HRG0.out HB.out) | (with_reducible refine Kd.C_alloc ?_ _) | (with_reducible refine Kd.C_drewN ?_ _) | (with_reducible refine Kd.C_drew ?_))); rintro e w22 ⟨v589, rfl, ho0, hb⟩; refine ⟨_, rfl, ?_⟩; have HO590 := Aside0.mk (Kd.R_lower (Kd.R_new' ho0 (Kd.R_lt (by (with_reducible repeat (first | apply Kd.R_alloc | apply Kd.R_drewN | apply Kd.R_drew)); exact HO_3.out))) (below_size b_now)); replace HO_3 := Aside0.mk (Kd.R_elder' (by (with_reducible repeat (first | apply Kd.R_alloc | apply Kd.R_drewN | apply Kd.R_drew)); exact HO_3.out) (Kd.R_base ho0) hb); replace HO_5 := Aside0.mk (Kd.R_below (by (with_reducible repeat (first | apply Kd.R_alloc | apply Kd.R_drewN | apply Kd.R_drew)); exact HO_5.out) hb); replace HO_6 := Aside0.mk (Kd.S_elder' (by (with_reducible repeat (first | apply Kd.S_alloc | apply Kd.S_drewN | apply Kd.S_drew)); exact HO_6.out) (Kd.R_base ho0) hb); replace HB := sh_b (w := w) hb; (try clear hb); (try clear hb2); (try clear hk); (try clear hi); (try clear ho0); obtain ⟨Ao24, co24, eo24⟩ := Kd.R_slice HO590.out; subst eo24) | ((with_reducible refine gate_builtin (b := .append) (xs := #[.tmp 48, .tmp 52]) rfl ?_); (try (refine gate_guard (by rfl) ?_; dsimp only)); at_builtin; refine Kd.S_append (Kd.slice 3 (Kd.int .i64)) (w0 := w) w.heap.size rfl (.tmp 48) (.tmp 52) 35 25 (.slice none 0 0) 24 rfl Tryd.underlying35 info25 rfl (by decide) (by omega) u6 x6_2 t588 [.slice Ao24 t588.length co24] (fun k_ => some k_ ≠ (v583 : Value).ownBlock) (fun k_ => some k_ = (.slice Ao24 t588.length co24 : Value).ownBlock) rfl rfl ?aP (fun k_ hk_ => ((Kd.R_mono (ok' := fun k_ => ((fun k_ => some k_ ≠ (v583 : Value).ownBlock)) k_ ∧ some k_ ≠ (u6 : Value).ownBlock) (Kd.R_apart' (HO590.out) (Kd.S_typed HO_6.out) (by decide)) (fun k_ hk => ⟨hk.1.2, hk.2⟩))).1 k_ hk_.symm) ?aF ?aO ?aB ?aS ?aL ?_; (case aP => exact Kd.M_row (Kd.R_mono (Kd.R_tight rfl (Kd.R_mono (ok' := fun k_ => ((fun k_ => some k_ ≠ (v583 : Value).ownBlock)) k_ ∧ some k_ ≠ (u6 : Value).ownBlock) (Kd.R_apart' (HO590.out) (Kd.S_typed HO_6.out) (by decide)) (fun k_ hk => ⟨hk.1.2, hk.2⟩))) (fun _ h_ => h_))); (case aB => exact b_now); (case aF => exact (fun k_ hk => Kd.fresh' (Kd.R_lt (by (with_reducible repeat (first | apply Kd.R_alloc | apply Kd.R_drewN | apply Kd.R_drew)); exact HO_3.out)) k_ hk)); (case aO => exact (by (with_reducible repeat (first | apply Kd.S_alloc | apply Kd.S_drewN | apply Kd.S_drew)); exact Kd.S_mono HO_6.out (fun k_ hk => ⟨hk.1, fun e_ => hk.2 e_⟩))); (case aS => exact (below_size b_now)); (case aL => have := LMc21.out; omega); intro v592 w23 ho hb hg hat; rw [← Ny591.out] at ho; have n0_ := Aside0.mk (Kd.R_over' (by (with_reducible repeat (first | apply Kd.R_alloc | apply Kd.R_drewN | apply Kd.R_drew)); exact HO_3.out) (Kd.S_typed (by (with_reducible repeat (first | apply Kd.S_alloc | apply Kd.S_drewN | apply Kd.S_drew)); exact HO_6.out)) (by decide) hg); have n1_ := Aside0.mk (Kd.R_over' (by (with_reducible repeat (first | apply Kd.R_alloc | apply Kd.R_drewN | apply Kd.R_drew)); exact HO_5.out) (Kd.S_typed (by (with_reducible repeat (first | apply Kd.S_alloc | apply Kd.S_drewN | apply Kd.S_drew)); exact HO_6.out)) (by decide) hg); have n2_ := Aside0.mk (hb); have n3_ := Aside0.mk (ho); clear HO_3; clear HO_5; clear HB; clear HO_6; clear HO590; have HO_3 := n0_; have HO_5 := n1_; have HB := n2_; have HO593 := n3_; clear n0_ n1_ n2_ n3_; clear ho hb hg hat))
         go_roundg k2
         case measure => have := HJ6.out; have := HK2.out; omega
         case rel => exact ⟨(y591), (wrap64 (x7_2 + 1)), eq_now, H', ⟨by have := HJ6.out; have := HK2.out; omega⟩, ⟨by (with_reducible repeat (first | apply Kd.R_alloc | apply Kd.R_drewN | apply Kd.R_drew)); exact Kd.R_mono HO_3.out (fun _ hk => trivial)⟩, ⟨by (with_reducible repeat (first | apply Kd.R_alloc | apply Kd.R_drewN | apply Kd.R_drew)); exact HO_5.out⟩, ⟨by (with_reducible repeat (first | apply Kd.S_alloc | apply Kd.S_drewN | apply Kd.S_drew)); exact HO593.out⟩, ⟨b_now⟩⟩
        ·rw [if_neg c21] at H
         exact absurd H (by simp)
       ·rw [if_neg c19] at H
        have c19b0 : decide (x7_2 < (l0.length : Int)) = false := decide_eq_false c19
        clear c19
        by_cases c25 : 0 ≤ (l0.length : Int)
        ·rw [if_pos c25] at H
         have c25b0 := eq_true c25
         have c25b1 : decide (0 ≤ (l0.length : Int)) = true := decide_eq_true c25
         clear c25
         by_cases c26 : ((l0.length : Int) : Int).toNat ≤ 281474976710656
         ·rw [if_pos c26] at H
          have c26b0 := eq_true c26
          have c26b1 : decide (((l0.length : Int) : Int).toNat ≤ 281474976710656) = true := decide_eq_true c26
          clear c26
          obtain ⟨y594, hy594⟩ : ∃ y_ : List Bool, y_ = (List.replicate ((l0.length : Int) : Int).toNat false) := ⟨_, rfl⟩
          replace H : (stockadelaw05_GraphLeast.l1 k2 l0 t581 t582 t585 x6_2 y594 0) = some r := by first | (rw [hy594]; with_reducible exact H) | (have H2_ := (Option.bind_some _ _).symm.trans H; rw [hy594]; with_reducible exact H2_) | (have H2_ := (Option.bind_some _ _).symm.trans H; with_reducible exact H2_) | with_reducible exact H | (rw [hy594]; exact H) | exact H
          have Ny594 := Aside0.mk hy594
          clear hy594
          have HC27 := Aside0.mk H
          clear H
          go_upto_block 2 with (first | ((with_reducible refine gate_dst (N := 56) rfl ?_); (try (refine gate_guard (by rfl) ?_; dsimp only)); refine Kd.R_make Kd.bool _ 4 rfl (N := 56) rfl 46 _ _ rfl (l0.length : Int) rfl rfl Tryd.underlying46 (.bool false) 1 info4 rfl (by decide) (by omega) false (ok := fun _ => True) (okp := fun _ => True) rfl (fun _ hk => hk) trivial (of_decide_eq_true (by first | (with_reducible assumption) | assumption)) (Nat.le_trans (Nat.mul_le_mul_right _ (of_decide_eq_true (by first | (with_reducible assumption) | assumption) : (l0.length : Int).toNat ≤ 281474976710656)) (by omega)) (Below.refl _ _) (Nat.le_refl _) ?_; intro v595 w28 ho29 hb hg_ hnew_; clear hg_ hnew_; (first | rw [← Ny594.out] at ho29 | (simp only [Int.reduceToNat] at ho29; rw [← Ny594.out] at ho29)); have HO596 := Aside0.mk (Kd.R_lower (Kd.R_new' ho29 (Kd.R_lt (by (with_reducible repeat (first | apply Kd.R_alloc | apply Kd.R_drewN | apply Kd.R_drew)); exact HO_5.out))) (below_size b_now)); replace HO_3 := Aside0.mk (Kd.R_below (by (with_reducible repeat (first | apply Kd.R_alloc | apply Kd.R_drewN | apply Kd.R_drew)); exact HO_3.out) hb); replace HO_5 := Aside0.mk (Kd.R_elder' (by (with_reducible repeat (first | apply Kd.R_alloc | apply Kd.R_drewN | apply Kd.R_drew)); exact HO_5.out) (Kd.R_base ho29) hb); replace HO_6 := Aside0.mk (Kd.S_below (by (with_reducible repeat (first | apply Kd.S_alloc | apply Kd.S_drewN | apply Kd.S_drew)); exact HO_6.out) hb); replace HB := sh_b (w := w) hb; clear hb ho29))
          (try simp only [Act.put, List.setIfInBounds_toArray, List.set_cons_zero, List.set_cons_succ])
          go_cut [] (fun wc => ∃ (kq : Nat) (x8_26 : List Bool), Aside0 (stockadelaw05_GraphLeast.j3 kq l0 t582 t585 x8_26 = some r) ∧ Aside0 (kq ≤ k2) ∧ Aside0 (Kd.R Kd.bool 4 wc w.heap.size (fun k_ => some k_ ≠ (v595 : Value).ownBlock) v586 t585) ∧ Aside0 (Kd.R Kd.bool 4 wc w.heap.size (fun k_ => some k_ ≠ (v586 : Value).ownBlock) v595 x8_26) ∧ Aside0 (Below w.heap.size w wc))
          case first =>
           have H := HC27.out
           clear HC27
           have H' := Aside0.mk H
           clear H
           go_wp2
           go_loopg [9] k2 (fun kq v9 w' => ∃ (x8_3 : List Bool) (x9_3 : Int), v9 = .int .i64 x9_3 ∧ Aside0 (stockadelaw05_GraphLeast.l1 kq l0 t581 t582 t585 x6_2 x8_3 x9_3 = some r) ∧ Aside0 (kq ≤ k2) ∧ Aside0 (Kd.R (Kd.int .i64) 3 w' w.heap.size (fun _ => True) v583 t581) ∧ Aside0 (Kd.R Kd.bool 4 w' w.heap.size (fun k_ => some k_ ≠ (v595 : Value).ownBlock) v586 t585) ∧ Aside0 (Kd.S (Kd.slice 3 (Kd.int .i64)) 25 w' w.heap.size (fun k_ => some k_ ≠ (v583 : Value).ownBlock) u6 x6_2) ∧ Aside0 (Kd.R Kd.bool 4 w' w.heap.size (fun k_ => some k_ ≠ (v586 : Value).ownBlock) v595 x8_3) ∧ Aside0 (Below w.heap.size w w'))
           case atStart => exact ⟨(y594), (0), eq_now, H', ⟨Nat.le_refl _⟩, ⟨by (with_reducible repeat (first | apply Kd.R_alloc | apply Kd.R_drewN | apply Kd.R_drew)); exact HO_3.out⟩, ⟨by (with_reducible repeat (first | apply Kd.R_alloc | apply Kd.R_drewN | apply Kd.R_drew)); exact Kd.R_mono HO_5.out (fun _ hk => hk.2)⟩, ⟨by (with_reducible repeat (first | apply Kd.S_alloc | apply Kd.S_drewN | apply Kd.S_drew)); exact HO_6.out⟩, ⟨by (with_reducible repeat (first | apply Kd.R_alloc | apply Kd.R_drewN | apply Kd.R_drew)); exact Kd.R_mono HO596.out (fun _ hk => hk.2)⟩, ⟨b_now⟩⟩
           case round =>
            clear H'
            try clear c1
            try clear c2
            try clear c2b0
            try clear c2b1
            try clear p2
            try clear p6
            try clear c7
            try clear c10
            try clear c10b0
            try clear c10b1
            try clear c10b2
            try clear c11
            try clear c11b0
            try clear c11b1
            try clear c12
            try clear c13
            try clear c13b0
            try clear c13b1
            try clear c16
            try clear c18
            try clear c19
            try clear c19b0
            try clear c21
            try clear c25
            try clear c25b0
            try clear c25b1
            try clear c26
            try clear c26b0
            try clear c26b1
            try clear p2
            obtain ⟨x8_3, x9_3, rfl, HA, HK3, HO_3, HO_5, HO_6, HO_8, HB⟩ := hrel
            cases gk with
            | zero => exact absurd HA.out (by simp [stockadelaw05_GraphLeast.l1])
            | succ k3 =>
             have H := HA.out
             clear HA
             simp only [stockadelaw05_GraphLeast.l1] at H
             by_cases c30 : x9_3 ≤ (l0.length : Int)
             ·rw [if_pos c30] at H
              have c30b0 : decide (x9_3 ≤ (l0.length : Int)) = true := decide_eq_true c30
              clear c30
              (first | rw [c30b0] | (simp only [i64_w, i32_w]; rw [c30b0]) | skip)
              replace H := Option.bind_eq_some_iff.mp H; obtain ⟨t597, A310, H⟩ := H; try dsimp only at H
              have A31 := Aside0.mk A310
              clear A310
              by_cases c32 : t597 < 0
              ·rw [if_pos c32] at H
               have c32b0 : decide (t597 < 0) = true := decide_eq_true c32
               clear c32
               have H' := Aside0.mk H
               clear H
               obtain ⟨Ao33, co33, eo33⟩ := Kd.S_slice HO_6.out
               subst eo33
               obtain ⟨Ao34, co34, eo34⟩ := Kd.R_slice HO_5.out
               subst eo34
               obtain ⟨Ao35, co35, eo35⟩ := Kd.R_slice HO_8.out
               subst eo35
               go_wp2_with (first | ((with_reducible refine gate_callee (f := 25) rfl ?_); refine sh_call (some 66) Tryd.func25 #[.slice Ao33 x6_2.length co33, .slice Ao34 t585.length co34, .slice Ao35 x8_3.length co35] ?_; (with_reducible refine (stockadelaw05_free.calls k3 _ _ x6_2 _ _ t585 _ _ x8_3 t597 _ ?side1 ?side2 ?side3 ?side4 ?side5 ?side6 A31.out).mono ?_); (case side1 => repeat (first | exact (Kd.S_reads' HO_6.out).2.2 | (with_reducible refine Kd.C_alloc ?_ _) | (with_reducible refine Kd.C_drewN ?_ _) | (with_reducible refine Kd.C_drew ?_))); (case side2 => exact (Kd.S_reads' HO_6.out).2.1); (case side3 => repeat (first | exact (Kd.R_reads' HO_5.out).2.2 | (with_reducible refine Kd.C_alloc ?_ _) | (with_reducible refine Kd.C_drewN ?_ _) | (with_reducible refine Kd.C_drew ?_))); (case side4 => exact (Kd.R_reads' HO_5.out).2.1); (case side5 => repeat (first | exact (Kd.R_reads' HO_8.out).2.2 | (with_reducible refine Kd.C_alloc ?_ _) | (with_reducible refine Kd.C_drewN ?_ _) | (with_reducible refine Kd.C_drew ?_))); (case side6 => exact (Kd.R_reads' HO_8.out).2.1); rintro e w36 ⟨rfl, hb⟩; refine ⟨_, rfl, ?_⟩; replace HO_3 := Aside0.mk (Kd.R_below (by (with_reducible repeat (first | apply Kd.R_alloc | apply Kd.R_drewN | apply Kd.R_drew)); exact HO_3.out) hb); replace HO_5 := Aside0.mk (Kd.R_below (by (with_reducible repeat (first | apply Kd.R_alloc | apply Kd.R_drewN | apply Kd.R_drew)); exact HO_5.out) hb); replace HO_6 := Aside0.mk (Kd.S_below (by (with_reducible repeat (first | apply Kd.S_alloc | apply Kd.S_drewN | apply Kd.S_drew)); exact HO_6.out) hb); replace HO_8 := Aside0.mk (Kd.R_below (by (with_reducible repeat (first | apply Kd.R_alloc | apply Kd.R_drewN | apply Kd.R_drew)); exact HO_8.out) hb); replace HB := sh_b (w := w) hb; (try clear hb); (try clear hb2); (try clear hk); (try clear hi)))
               go_meet
               case rel => exact ⟨_, (x8_3), H', ⟨by have := HJ6.out; have := HK2.out; have := HK3.out; first | omega | exact Nat.le_refl _⟩, ⟨by (with_reducible repeat (first | apply Kd.R_alloc | apply Kd.R_drewN | apply Kd.R_drew)); exact HO_5.out⟩, ⟨by (with_reducible repeat (first | apply Kd.R_alloc | apply Kd.R_drewN | apply Kd.R_drew)); exact HO_8.out⟩, ⟨b_now⟩⟩
              ·rw [if_neg c32] at H
               have c32b0 : decide (t597 < 0) = false := decide_eq_false c32
               clear c32
               by_cases c37 : t582 = 0
               ·rw [if_pos c37] at H
                have c37b0 : (t582 == 0) = true := beq_iff_eq.mpr c37
                have c37b1 : (t582 != 0) = false := bne_eq_false_iff_eq.mpr c37
                clear c37
                by_cases c38 : x9_3 ≥ (t581.length : Int)
                ·rw [if_pos c38] at H
                 have c38b0 : decide ((t581.length : Int) ≤ x9_3) = true := decide_eq_true c38
                 clear c38
                 obtain rfl := Option.some.inj H
                 exact absurd HRT.out (by simp)
                ·rw [if_neg c38] at H
                 have c38b0 : decide ((t581.length : Int) ≤ x9_3) = false := decide_eq_false c38
                 clear c38
                 by_cases c39 : 0 ≤ x9_3
                 ·rw [if_pos c39] at H
                  have c39b0 : decide (0 ≤ x9_3) = true := decide_eq_true c39
                  clear c39
                  by_cases c40 : x9_3 < (t581.length : Int)
                  ·rw [if_pos c40] at H
                   have c40b0 : decide (x9_3 < (t581.length : Int)) = true := decide_eq_true c40
                   clear c40
                   by_cases c41 : (rd t581 x9_3) = t597
                   ·rw [if_pos c41] at H
                    have c41b0 : ((rd t581 x9_3) == t597) = true := beq_iff_eq.mpr c41
                    have c41b1 : ((rd t581 x9_3) != t597) = false := bne_eq_false_iff_eq.mpr c41
                    clear c41
                    by_cases c42 : 0 ≤ t597
                    ·rw [if_pos c42] at H
                     have c42b0 : decide (0 ≤ t597) = true := decide_eq_true c42
                     clear c42
                     by_cases c43 : t597 < (x8_3.length : Int)
                     ·rw [if_pos c43] at H
                      have c43b0 : decide (t597 < (x8_3.length : Int)) = true := decide_eq_true c43
                      clear c43
                      obtain ⟨y599, hy599⟩ : ∃ y_ : List Bool, y_ = (x8_3.set (t597 : Int).toNat true) := ⟨_, rfl⟩
                      replace H : (stockadelaw05_GraphLeast.l1 k3 l0 t581 t582 t585 x6_2 y599 (wrap64 (x9_3 + 1))) = some r := by first | (rw [hy599]; with_reducible exact H) | (have H2_ := (Option.bind_some _ _).symm.trans H; rw [hy599]; with_reducible exact H2_) | (have H2_ := (Option.bind_some _ _).symm.trans H; with_reducible exact H2_) | with_reducible exact H | (rw [hy599]; exact H) | exact H
                      have Ny599 := Aside0.mk hy599
                      clear hy599
                      have H' := Aside0.mk H
                      clear H
                      obtain ⟨Ao45, co45, eo45⟩ := Kd.S_slice HO_6.out
                      subst eo45
                      obtain ⟨Ao46, co46, eo46⟩ := Kd.R_slice HO_5.out
                      subst eo46
                      obtain ⟨Ao47, co47, eo47⟩ := Kd.R_slice HO_8.out
                      subst eo47
                      go_wp2_with (first | ((with_reducible refine gate_callee (f := 25) rfl ?_); refine sh_call (some 66) Tryd.func25 #[.slice Ao45 x6_2.length co45, .slice Ao46 t585.length co46, .slice Ao47 x8_3.length co47] ?_; (with_reducible refine (stockadelaw05_free.calls k3 _ _ x6_2 _ _ t585 _ _ x8_3 t597 _ ?side1 ?side2 ?side3 ?side4 ?side5 ?side6 A31.out).mono ?_); (case side1 => repeat (first | exact (Kd.S_reads' HO_6.out).2.2 | (with_reducible refine Kd.C_alloc ?_ _) | (with_reducible refine Kd.C_drewN ?_ _) | (with_reducible refine Kd.C_drew ?_))); (case side2 => exact (Kd.S_reads' HO_6.out).2.1); (case side3 => repeat (first | exact (Kd.R_reads' HO_5.out).2.2 | (with_reducible refine Kd.C_alloc ?_ _) | (with_reducible refine Kd.C_drewN ?_ _) | (with_reducible refine Kd.C_drew ?_))); (case side4 => exact (Kd.R_reads' HO_5.out).2.1); (case side5 => repeat (first | exact (Kd.R_reads' HO_8.out).2.2 | (with_reducible refine Kd.C_alloc ?_ _) | (with_reducible refine Kd.C_drewN ?_ _) | (with_reducible refine Kd.C_drew ?_))); (case side6 => exact (Kd.R_reads' HO_8.out).2.1); rintro e w48 ⟨rfl, hb⟩; refine ⟨_, rfl, ?_⟩; replace HO_3 := Aside0.mk (Kd.R_below (by (with_reducible repeat (first | apply Kd.R_alloc | apply Kd.R_drewN | apply Kd.R_drew)); exact HO_3.out) hb); replace HO_5 := Aside0.mk (Kd.R_below (by (with_reducible repeat (first | apply Kd.R_alloc | apply Kd.R_drewN | apply Kd.R_drew)); exact HO_5.out) hb); replace HO_6 := Aside0.mk (Kd.S_below (by (with_reducible repeat (first | apply Kd.S_alloc | apply Kd.S_drewN | apply Kd.S_drew)); exact HO_6.out) hb); replace HO_8 := Aside0.mk (Kd.R_below (by (with_reducible repeat (first | apply Kd.R_alloc | apply Kd.R_drewN | apply Kd.R_drew)); exact HO_8.out) hb); replace HB := sh_b (w := w) hb; (try clear hb); (try clear hb2); (try clear hk); (try clear hi); obtain ⟨Ao49, co49, eo49⟩ := Kd.R_slice HO_3.out; subst eo49; have p598 : 0 ≤ (x9_3 : Int) := of_decide_eq_true (by first | (with_reducible assumption) | assumption); have q598 : x9_3 < (t581.length : Int) := of_decide_eq_true (by first | (with_reducible assumption) | assumption); obtain ⟨ad598, e598, hx598_0⟩ := Kd.at_int (Kd.R_reads' HO_3.out).2.2 x9_3 p598 q598; cases e598; replace p598 := eq_true p598; replace q598 := eq_true q598; have p44 : 0 ≤ (t597 : Int) := of_decide_eq_true (by first | (with_reducible assumption) | assumption); have q44 : (t597 : Int) < ((x8_3.length : Int) : Int) := of_decide_eq_true (by first | (with_reducible assumption) | assumption); obtain ⟨go44, co44, eo44, gb44, gl44, cl44, HG44⟩ := Kd.R_form HO_8.out (by omega); (first | cases eo44 | (injection eo44 with ea_ en_ ec_; (first | subst ea_ | (injection ea_ with ea_; subst ea_)); subst ec_; clear en_)); have GB44 := Aside0.mk gb44; have GG44 := Aside0.mk HG44; clear gb44 gl44 HG44; obtain ⟨hx44_0, hf44_0⟩ := Kd.R_celln false HO_8.out (t597 : Int) p44 q44; replace p44 := eq_true p44; replace q44 := eq_true q44; obtain ⟨hy50_, hz50_⟩ := Kd.R_celln false HO_8.out (t597 : Int) (of_decide_eq_true (by first | (with_reducible assumption) | assumption)) (of_decide_eq_true (by first | (with_reducible assumption) | assumption)); have HP50 := Kd.R_putg HO_8.out (t597 : Int) true) | ((with_reducible refine gate_store (t := 4) (p := 87) rfl ?_); refine store_event (t := 4) (p := 87) (v := ?vo_w51) (w1 := (w48.setCell ⟨go44, (t597 : Int).toNat, none⟩ (.bool true))) ?hg ?ho ?hn ?hr ?_; (case ho => rfl); (case hg => rfl); (case hn => rfl); (case hr => first | (go_simp; done) | (go_simp; rfl)); intro w51 hw; have hg : w48.grownBy w51 (some go44) := (by rw [hw]; exact HP50.2); have hp_ : Kd.R Kd.bool 4 w51 w.heap.size (fun k_ => some k_ ≠ (.slice Ao46 t585.length co46 : Value).ownBlock) (.slice (some ⟨go44, 0, none⟩) x8_3.length co47) y599 := (by rw [hw, Ny599.out]; exact HP50.1); clear HP50; replace HO_3 := Aside0.mk (Kd.R_over' (v := (.slice (some ⟨go44, 0, none⟩) x8_3.length co47)) (by (with_reducible repeat (first | apply Kd.R_alloc | apply Kd.R_drewN | apply Kd.R_drew)); exact HO_3.out) (Kd.R_typed HO_8.out) (by decide) hg); replace HO_5 := Aside0.mk (Kd.R_after (v := (.slice (some ⟨go44, 0, none⟩) x8_3.length co47)) (v1 := (.slice (some ⟨go44, 0, none⟩) x8_3.length co47)) (ok := (fun _ => True)) (by (with_reducible repeat (first | apply Kd.R_alloc | apply Kd.R_drewN | apply Kd.R_drew)); exact Kd.R_mono HO_5.out (fun _ hk => ⟨trivial, hk⟩)) hg (.inl rfl)); replace HO_6 := Aside0.mk (Kd.S_over' (v := (.slice (some ⟨go44, 0, none⟩) x8_3.length co47)) (by (with_reducible repeat (first | apply Kd.S_alloc | apply Kd.S_drewN | apply Kd.S_drew)); exact HO_6.out) (Kd.R_typed HO_8.out) (by decide) hg); replace HO_8 := Aside0.mk (hp_); replace HB := Aside0.mk ((by rw [hw]; exact below_set (HB.out) GB44.out : Below w.heap.size w w51)); clear hg hw hp_))
                      go_roundg k3
                      case measure => have := HJ6.out; have := HK2.out; have := HK3.out; omega
                      case rel => exact ⟨(y599), (wrap64 (x9_3 + 1)), eq_now, H', ⟨by have := HJ6.out; have := HK2.out; have := HK3.out; omega⟩, ⟨by (with_reducible repeat (first | apply Kd.R_alloc | apply Kd.R_drewN | apply Kd.R_drew)); exact HO_3.out⟩, ⟨by (with_reducible repeat (first | apply Kd.R_alloc | apply Kd.R_drewN | apply Kd.R_drew)); exact Kd.R_mono HO_5.out (fun _ hk => hk.2)⟩, ⟨by (with_reducible repeat (first | apply Kd.S_alloc | apply Kd.S_drewN | apply Kd.S_drew)); exact HO_6.out⟩, ⟨by (with_reducible repeat (first | apply Kd.R_alloc | apply Kd.R_drewN | apply Kd.R_drew)); exact HO_8.out⟩, ⟨b_now⟩⟩
                     ·rw [if_neg c43] at H
                      exact absurd H (by simp)
                    ·rw [if_neg c42] at H
                     exact absurd H (by simp)
                   ·rw [if_neg c41] at H
                    have c41b0 : ((rd t581 x9_3) == t597) = false := beq_eq_false_iff_ne.mpr c41
                    have c41b1 : ((rd t581 x9_3) != t597) = true := bne_iff_ne.mpr c41
                    obtain rfl := Option.some.inj H
                    exact absurd HRT.out (by simp)
                  ·rw [if_neg c40] at H
                   exact absurd H (by simp)
                 ·rw [if_neg c39] at H
                  exact absurd H (by simp)
               ·rw [if_neg c37] at H
                have c37b0 : (t582 == 0) = false := beq_eq_false_iff_ne.mpr c37
                have c37b1 : (t582 != 0) = true := bne_iff_ne.mpr c37
                by_cases c52 : 0 ≤ t597
                ·rw [if_pos c52] at H
                 have c52b0 : decide (0 ≤ t597) = true := decide_eq_true c52
                 clear c52
                 by_cases c53 : t597 < (x8_3.length : Int)
                 ·rw [if_pos c53] at H
                  have c53b0 : decide (t597 < (x8_3.length : Int)) = true := decide_eq_true c53
                  clear c53
                  obtain ⟨y600, hy600⟩ : ∃ y_ : List Bool, y_ = (x8_3.set (t597 : Int).toNat true) := ⟨_, rfl⟩
                  replace H : (stockadelaw05_GraphLeast.l1 k3 l0 t581 t582 t585 x6_2 y600 (wrap64 (x9_3 + 1))) = some r := by first | (rw [hy600]; with_reducible exact H) | (have H2_ := (Option.bind_some _ _).symm.trans H; rw [hy600]; with_reducible exact H2_) | (have H2_ := (Option.bind_some _ _).symm.trans H; with_reducible exact H2_) | with_reducible exact H | (rw [hy600]; exact H) | exact H
                  have Ny600 := Aside0.mk hy600
                  clear hy600
                  have H' := Aside0.mk H
                  clear H
                  obtain ⟨Ao55, co55, eo55⟩ := Kd.S_slice HO_6.out
                  subst eo55
                  obtain ⟨Ao56, co56, eo56⟩ := Kd.R_slice HO_5.out
                  subst eo56
                  obtain ⟨Ao57, co57, eo57⟩ := Kd.R_slice HO_8.out
                  subst eo57
                  go_wp2_with (first | ((with_reducible refine gate_callee (f := 25) rfl ?_); refine sh_call (some 66) Tryd.func25 #[.slice Ao55 x6_2.length co55, .slice Ao56 t585.length co56, .slice Ao57 x8_3.length co57] ?_; (with_reducible refine (stockadelaw05_free.calls k3 _ _ x6_2 _ _ t585 _ _ x8_3 t597 _ ?side1 ?side2 ?side3 ?side4 ?side5 ?side6 A31.out).mono ?_); (case side1 => repeat (first | exact (Kd.S_reads' HO_6.out).2.2 | (with_reducible refine Kd.C_alloc ?_ _) | (with_reducible refine Kd.C_drewN ?_ _) | (with_reducible refine Kd.C_drew ?_))); (case side2 => exact (Kd.S_reads' HO_6.out).2.1); (case side3 => repeat (first | exact (Kd.R_reads' HO_5.out).2.2 | (with_reducible refine Kd.C_alloc ?_ _) | (with_reducible refine Kd.C_drewN ?_ _) | (with_reducible refine Kd.C_drew ?_))); (case side4 => exact (Kd.R_reads' HO_5.out).2.1); (case side5 => repeat (first | exact (Kd.R_reads' HO_8.out).2.2 | (with_reducible refine Kd.C_alloc ?_ _) | (with_reducible refine Kd.C_drewN ?_ _) | (with_reducible refine Kd.C_drew ?_))); (case side6 => exact (Kd.R_reads' HO_8.out).2.1); rintro e w58 ⟨rfl, hb⟩; refine ⟨_, rfl, ?_⟩; replace HO_3 := Aside0.mk (Kd.R_below (by (with_reducible repeat (first | apply Kd.R_alloc | apply Kd.R_drewN | apply Kd.R_drew)); exact HO_3.out) hb); replace HO_5 := Aside0.mk (Kd.R_below (by (with_reducible repeat (first | apply Kd.R_alloc | apply Kd.R_drewN | apply Kd.R_drew)); exact HO_5.out) hb); replace HO_6 := Aside0.mk (Kd.S_below (by (with_reducible repeat (first | apply Kd.S_alloc | apply Kd.S_drewN | apply Kd.S_drew)); exact HO_6.out) hb); replace HO_8 := Aside0.mk (Kd.R_below (by (with_reducible repeat (first | apply Kd.R_alloc | apply Kd.R_drewN | apply Kd.R_drew)); exact HO_8.out) hb); replace HB := sh_b (w := w) hb; (try clear hb); (try clear hb2); (try clear hk); (try clear hi); have p54 : 0 ≤ (t597 : Int) := of_decide_eq_true (by first | (with_reducible assumption) | assumption); have q54 : (t597 : Int) < ((x8_3.length : Int) : Int) := of_decide_eq_true (by first | (with_reducible assumption) | assumption); obtain ⟨go54, co54, eo54, gb54, gl54, cl54, HG54⟩ := Kd.R_form HO_8.out (by omega); (first | cases eo54 | (injection eo54 with ea_ en_ ec_; (first | subst ea_ | (injection ea_ with ea_; subst ea_)); subst ec_; clear en_)); have GB54 := Aside0.mk gb54; have GG54 := Aside0.mk HG54; clear gb54 gl54 HG54; obtain ⟨hx54_0, hf54_0⟩ := Kd.R_celln false HO_8.out (t597 : Int) p54 q54; replace p54 := eq_true p54; replace q54 := eq_true q54; obtain ⟨hy59_, hz59_⟩ := Kd.R_celln false HO_8.out (t597 : Int) (of_decide_eq_true (by first | (with_reducible assumption) | assumption)) (of_decide_eq_true (by first | (with_reducible assumption) | assumption)); have HP59 := Kd.R_putg HO_8.out (t597 : Int) true) | ((with_reducible refine gate_store (t := 4) (p := 87) rfl ?_); refine store_event (t := 4) (p := 87) (v := ?vo_w60) (w1 := (w58.setCell ⟨go54, (t597 : Int).toNat, none⟩ (.bool true))) ?hg ?ho ?hn ?hr ?_; (case ho => rfl); (case hg => rfl); (case hn => rfl); (case hr => first | (go_simp; done) | (go_simp; rfl)); intro w60 hw; have hg : w58.grownBy w60 (some go54) := (by rw [hw]; exact HP59.2); have hp_ : Kd.R Kd.bool 4 w60 w.heap.size (fun k_ => some k_ ≠ (.slice Ao56 t585.length co56 : Value).ownBlock) (.slice (some ⟨go54, 0, none⟩) x8_3.length co57) y600 := (by rw [hw, Ny600.out]; exact HP59.1); clear HP59; replace HO_3 := Aside0.mk (Kd.R_over' (v := (.slice (some ⟨go54, 0, none⟩) x8_3.length co57)) (by (with_reducible repeat (first | apply Kd.R_alloc | apply Kd.R_drewN | apply Kd.R_drew)); exact HO_3.out) (Kd.R_typed HO_8.out) (by decide) hg); replace HO_5 := Aside0.mk (Kd.R_after (v := (.slice (some ⟨go54, 0, none⟩) x8_3.length co57)) (v1 := (.slice (some ⟨go54, 0, none⟩) x8_3.length co57)) (ok := (fun _ => True)) (by (with_reducible repeat (first | apply Kd.R_alloc | apply Kd.R_drewN | apply Kd.R_drew)); exact Kd.R_mono HO_5.out (fun _ hk => ⟨trivial, hk⟩)) hg (.inl rfl)); replace HO_6 := Aside0.mk (Kd.S_over' (v := (.slice (some ⟨go54, 0, none⟩) x8_3.length co57)) (by (with_reducible repeat (first | apply Kd.S_alloc | apply Kd.S_drewN | apply Kd.S_drew)); exact HO_6.out) (Kd.R_typed HO_8.out) (by decide) hg); replace HO_8 := Aside0.mk (hp_); replace HB := Aside0.mk ((by rw [hw]; exact below_set (HB.out) GB54.out : Below w.heap.size w w60)); clear hg hw hp_))
                  go_roundg k3
                  case measure => have := HJ6.out; have := HK2.out; have := HK3.out; omega
                  case rel => exact ⟨(y600), (wrap64 (x9_3 + 1)), eq_now, H', ⟨by have := HJ6.out; have := HK2.out; have := HK3.out; omega⟩, ⟨by (with_reducible repeat (first | apply Kd.R_alloc | apply Kd.R_drewN | apply Kd.R_drew)); exact HO_3.out⟩, ⟨by (with_reducible repeat (first | apply Kd.R_alloc | apply Kd.R_drewN | apply Kd.R_drew)); exact Kd.R_mono HO_5.out (fun _ hk => hk.2)⟩, ⟨by (with_reducible repeat (first | apply Kd.S_alloc | apply Kd.S_drewN | apply Kd.S_drew)); exact HO_6.out⟩, ⟨by (with_reducible repeat (first | apply Kd.R_alloc | apply Kd.R_drewN | apply Kd.R_drew)); exact HO_8.out⟩, ⟨b_now⟩⟩
                 ·rw [if_neg c53] at H
                  exact absurd H (by simp)
                ·rw [if_neg c52] at H
                 exact absurd H (by simp)
             ·rw [if_neg c30] at H
              have c30b0 : decide (x9_3 ≤ (l0.length : Int)) = false := decide_eq_false c30
              clear c30
              (first | rw [c30b0] | (simp only [i64_w, i32_w]; rw [c30b0]) | skip)
              have H' := Aside0.mk H
              clear H
              go_wp2
              go_meet
              case rel => exact ⟨_, (x8_3), H', ⟨by have := HJ6.out; have := HK2.out; have := HK3.out; first | omega | exact Nat.le_refl _⟩, ⟨by (with_reducible repeat (first | apply Kd.R_alloc | apply Kd.R_drewN | apply Kd.R_drew)); exact HO_5.out⟩, ⟨by (with_reducible repeat (first | apply Kd.R_alloc | apply Kd.R_drewN | apply Kd.R_drew)); exact HO_8.out⟩, ⟨b_now⟩⟩
          case rest =>
           clear HC27
           try clear c1
           try clear c2
           try clear c2b0
           try clear c2b1
           try clear p2
           try clear c3
           try clear c4
           try clear p4
           try clear q4
           try clear hx4
           try clear hf4
           try clear c5
           try clear p5
           try clear q5
           try clear hx5
           try clear hf5
           try clear p6
           try clear c7
           try clear c10
           try clear c10b0
           try clear c10b1
           try clear c10b2
           try clear c11
           try clear c11b0
           try clear c11b1
           try clear c12
           try clear c13
           try clear c13b0
           try clear c13b1
           try clear c16
           try clear c18
           try clear c19
           try clear c19b0
           try clear c21
           try clear c25
           try clear c25b0
           try clear c25b1
           try clear c26
           try clear c26b0
           try clear c26b1
           try clear c30
           try clear c30b0
           try clear c32
           try clear c32b0
           try clear c37
           try clear c37b0
           try clear c37b1
           try clear c38
           try clear c38b0
           try clear c39
           try clear c39b0
           try clear c40
           try clear c40b0
           try clear c41
           try clear c41b0
           try clear c41b1
           try clear c42
           try clear c42b0
           try clear c43
           try clear c43b0
           try clear p44
           try clear q44
           try clear hx44
           try clear hf44
           try clear c52
           try clear c52b0
           try clear c53
           try clear c53b0
           try clear p54
           try clear q54
           try clear hx54
           try clear hf54
           try clear p59
           try clear q59
           try clear hx59
           try clear hx44_0
           try clear hx54_0
           try clear hx598_0
           try clear p2
           try clear p44
           try clear p54
           try clear p598
           try clear p6
           try clear q44
           try clear q54
           try clear q598
           obtain ⟨kq, x8_26, HA, HJ26, HO_5, HO_8, HB⟩ := hcut
           cases kq with
           | zero => exact absurd HA.out (by simp [stockadelaw05_GraphLeast.j3])
           | succ kj26 =>
            have H := HA.out
            clear HA
            simp only [stockadelaw05_GraphLeast.j3] at H
            have H' := Aside0.mk H
            clear H
            go_wp2
            go_loopg [11, 12] kj26 (fun kq v11 v12 w' => ∃ (x11_4 : Int) (x12_4 : Int), v11 = .int .i64 x11_4 ∧ v12 = .int .i64 x12_4 ∧ Aside0 (stockadelaw05_GraphLeast.l2 kq l0 t582 t585 x8_26 x11_4 x12_4 = some r) ∧ Aside0 (kq ≤ kj26) ∧ Aside0 (Kd.R Kd.bool 4 w' w.heap.size (fun k_ => some k_ ≠ (v595 : Value).ownBlock) v586 t585) ∧ Aside0 (Kd.R Kd.bool 4 w' w.heap.size (fun k_ => some k_ ≠ (v586 : Value).ownBlock) v595 x8_26) ∧ Aside0 (Below w.heap.size w w'))
            case atStart => exact ⟨(0), (0), eq_now, eq_now, H', ⟨Nat.le_refl _⟩, ⟨by (with_reducible repeat (first | apply Kd.R_alloc | apply Kd.R_drewN | apply Kd.R_drew)); exact HO_5.out⟩, ⟨by (with_reducible repeat (first | apply Kd.R_alloc | apply Kd.R_drewN | apply Kd.R_drew)); exact HO_8.out⟩, ⟨b_now⟩⟩
            case round =>
             clear H'
             try clear c1
             try clear c2
             try clear c2b0
             try clear c2b1
             try clear p2
             try clear c3
             try clear c4
             try clear p4
             try clear q4
             try clear hx4
             try clear hf4
             try clear c5
             try clear p5
             try clear q5
             try clear hx5
             try clear hf5
             try clear p6
             try clear c7
             try clear c10
             try clear c10b0
             try clear c10b1
             try clear c10b2
             try clear c11
             try clear c11b0
             try clear c11b1
             try clear c12
             try clear c13
             try clear c13b0
             try clear c13b1
             try clear c16
             try clear c18
             try clear c19
             try clear c19b0
             try clear c21
             try clear c25
             try clear c25b0
             try clear c25b1
             try clear c26
             try clear c26b0
             try clear c26b1
             try clear c30
             try clear c30b0
             try clear c32
             try clear c32b0
             try clear c37
             try clear c37b0
             try clear c37b1
             try clear c38
             try clear c38b0
             try clear c39
             try clear c39b0
             try clear c40
             try clear c40b0
             try clear c41
             try clear c41b0
             try clear c41b1
             try clear c42
             try clear c42b0
             try clear c43
             try clear c43b0
             try clear p44
             try clear q44
             try clear hx44
             try clear hf44
             try clear c52
             try clear c52b0
             try clear c53
             try clear c53b0
             try clear p54
             try clear q54
             try clear hx54
             try clear hf54
             try clear p59
             try clear q59
             try clear hx59
             try clear hx44_0
             try clear hx54_0
             try clear hx598_0
             try clear p2
             try clear p4
             try clear p44
             try clear p5
             try clear p54
             try clear p59
             try clear p598
             try clear p6
             try clear q4
             try clear q44
             try clear q5
             try clear q54
             try clear q59
             try clear q598
             obtain ⟨x11_4, x12_4, rfl, rfl, HA, HK4, HO_5, HO_8, HB⟩ := hrel
             cases gk with
             | zero => exact absurd HA.out (by simp [stockadelaw05_GraphLeast.l2])
             | succ k4 =>
              have H := HA.out
              clear HA
              simp only [stockadelaw05_GraphLeast.l2] at H
              by_cases c61 : x12_4 < (l0.length : Int)
              ·rw [if_pos c61] at H
               have c61b0 : decide (x12_4 < (l0.length : Int)) = true := decide_eq_true c61
               clear c61
               by_cases c62 : 0 ≤ x12_4
               ·rw [if_pos c62] at H
                have c62b0 : decide (0 ≤ x12_4) = true := decide_eq_true c62
                clear c62
                by_cases c63 : x12_4 < (t585.length : Int)
                ·rw [if_pos c63] at H
                 have c63b0 : decide (x12_4 < (t585.length : Int)) = true := decide_eq_true c63
                 clear c63
                 obtain ⟨bq64, hbq64⟩ : ∃ b_ : Bool, b_ = (rdOf false t585 x12_4) := ⟨_, rfl⟩
                 replace H : (if bq64 = true then (if x12_4 < (x8_26.length : Int) then (if rdOf false x8_26 x12_4 = true then (stockadelaw05_GraphLeast.l2 k4 l0 t582 t585 x8_26 x11_4 (wrap64 (x12_4 + 1))) else (stockadelaw05_GraphLeast.l2 k4 l0 t582 t585 x8_26 (wrap64 (x11_4 + 1)) (wrap64 (x12_4 + 1)))) else (none)) else (stockadelaw05_GraphLeast.l2 k4 l0 t582 t585 x8_26 x11_4 (wrap64 (x12_4 + 1)))) = some r := by rw [← hbq64] at H; exact H
                 have Nbq64 := Aside0.mk hbq64
                 clear hbq64
                 by_cases c65 : bq64 = true
                 ·subst c65
                  replace H := sh_t H
                  by_cases c66 : x12_4 < (x8_26.length : Int)
                  ·rw [if_pos c66] at H
                   have c66b0 : decide (x12_4 < (x8_26.length : Int)) = true := decide_eq_true c66
                   clear c66
                   obtain ⟨bq67, hbq67⟩ : ∃ b_ : Bool, b_ = (rdOf false x8_26 x12_4) := ⟨_, rfl⟩
                   replace H : (if bq67 = true then (stockadelaw05_GraphLeast.l2 k4 l0 t582 t585 x8_26 x11_4 (wrap64 (x12_4 + 1))) else (stockadelaw05_GraphLeast.l2 k4 l0 t582 t585 x8_26 (wrap64 (x11_4 + 1)) (wrap64 (x12_4 + 1)))) = some r := by rw [← hbq67] at H; exact H
                   have Nbq67 := Aside0.mk hbq67
                   clear hbq67
                   by_cases c68 : bq67 = true
                   ·subst c68
                    replace H := sh_t H
                    have H' := Aside0.mk H
                    clear H
                    obtain ⟨Ao69, co69, eo69⟩ := Kd.R_slice HO_5.out
                    subst eo69
                    have p601 : 0 ≤ (x12_4 : Int) := of_decide_eq_true (by first | (with_reducible assumption) | assumption)
                    have q601 : x12_4 < (t585.length : Int) := of_decide_eq_true (by first | (with_reducible assumption) | assumption)
                    obtain ⟨ad601, e601, hx601_0⟩ := Kd.at_bool (Kd.R_reads' HO_5.out).2.2 x12_4 p601 q601
                    (try rw [← Nbq64.out] at hx601_0)
                    (try rw [← Nbq67.out] at hx601_0)
                    cases e601
                    replace p601 := eq_true p601
                    replace q601 := eq_true q601
                    obtain ⟨Ao70, co70, eo70⟩ := Kd.R_slice HO_8.out
                    subst eo70
                    have p602 : 0 ≤ (x12_4 : Int) := of_decide_eq_true (by first | (with_reducible assumption) | assumption)
                    have q602 : x12_4 < (x8_26.length : Int) := of_decide_eq_true (by first | (with_reducible assumption) | assumption)
                    obtain ⟨ad602, e602, hx602_0⟩ := Kd.at_bool (Kd.R_reads' HO_8.out).2.2 x12_4 p602 q602
                    (try rw [← Nbq64.out] at hx602_0)
                    (try rw [← Nbq67.out] at hx602_0)
                    cases e602
                    replace p602 := eq_true p602
                    replace q602 := eq_true q602
                    go_wp2
                    go_roundg k4
                    case measure => have := HJ6.out; have := HK2.out; have := HJ26.out; have := HK4.out; omega
                    case rel => exact ⟨(x11_4), (wrap64 (x12_4 + 1)), eq_now, eq_now, H', ⟨by have := HJ6.out; have := HK2.out; have := HJ26.out; have := HK4.out; omega⟩, ⟨by (with_reducible repeat (first | apply Kd.R_alloc | apply Kd.R_drewN | apply Kd.R_drew)); exact HO_5.out⟩, ⟨by (with_reducible repeat (first | apply Kd.R_alloc | apply Kd.R_drewN | apply Kd.R_drew)); exact HO_8.out⟩, ⟨b_now⟩⟩
                   ·replace c68 := Bool.eq_false_iff.mpr c68
                    subst c68
                    replace H := sh_f H
                    have H' := Aside0.mk H
                    clear H
                    obtain ⟨Ao71, co71, eo71⟩ := Kd.R_slice HO_5.out
                    subst eo71
                    have p601 : 0 ≤ (x12_4 : Int) := of_decide_eq_true (by first | (with_reducible assumption) | assumption)
                    have q601 : x12_4 < (t585.length : Int) := of_decide_eq_true (by first | (with_reducible assumption) | assumption)
                    obtain ⟨ad601, e601, hx601_0⟩ := Kd.at_bool (Kd.R_reads' HO_5.out).2.2 x12_4 p601 q601
                    (try rw [← Nbq64.out] at hx601_0)
                    (try rw [← Nbq67.out] at hx601_0)
                    cases e601
                    replace p601 := eq_true p601
                    replace q601 := eq_true q601
                    obtain ⟨Ao72, co72, eo72⟩ := Kd.R_slice HO_8.out
                    subst eo72
                    have p602 : 0 ≤ (x12_4 : Int) := of_decide_eq_true (by first | (with_reducible assumption) | assumption)
                    have q602 : x12_4 < (x8_26.length : Int) := of_decide_eq_true (by first | (with_reducible assumption) | assumption)
                    obtain ⟨ad602, e602, hx602_0⟩ := Kd.at_bool (Kd.R_reads' HO_8.out).2.2 x12_4 p602 q602
                    (try rw [← Nbq64.out] at hx602_0)
                    (try rw [← Nbq67.out] at hx602_0)
                    cases e602
                    replace p602 := eq_true p602
                    replace q602 := eq_true q602
                    go_wp2
                    go_roundg k4
                    case measure => have := HJ6.out; have := HK2.out; have := HJ26.out; have := HK4.out; omega
                    case rel => exact ⟨(wrap64 (x11_4 + 1)), (wrap64 (x12_4 + 1)), eq_now, eq_now, H', ⟨by have := HJ6.out; have := HK2.out; have := HJ26.out; have := HK4.out; omega⟩, ⟨by (with_reducible repeat (first | apply Kd.R_alloc | apply Kd.R_drewN | apply Kd.R_drew)); exact HO_5.out⟩, ⟨by (with_reducible repeat (first | apply Kd.R_alloc | apply Kd.R_drewN | apply Kd.R_drew)); exact HO_8.out⟩, ⟨b_now⟩⟩
                  ·rw [if_neg c66] at H
                   exact absurd H (by simp)
                 ·replace c65 := Bool.eq_false_iff.mpr c65
                  subst c65
                  replace H := sh_f H
                  have H' := Aside0.mk H
                  clear H
                  obtain ⟨Ao73, co73, eo73⟩ := Kd.R_slice HO_5.out
                  subst eo73
                  have p601 : 0 ≤ (x12_4 : Int) := of_decide_eq_true (by first | (with_reducible assumption) | assumption)
                  have q601 : x12_4 < (t585.length : Int) := of_decide_eq_true (by first | (with_reducible assumption) | assumption)
                  obtain ⟨ad601, e601, hx601_0⟩ := Kd.at_bool (Kd.R_reads' HO_5.out).2.2 x12_4 p601 q601
                  (try rw [← Nbq64.out] at hx601_0)
                  cases e601
                  replace p601 := eq_true p601
                  replace q601 := eq_true q601
                  go_wp2
                  go_roundg k4
                  case measure => have := HJ6.out; have := HK2.out; have := HJ26.out; have := HK4.out; omega
                  case rel => exact ⟨(x11_4), (wrap64 (x12_4 + 1)), eq_now, eq_now, H', ⟨by have := HJ6.out; have := HK2.out; have := HJ26.out; have := HK4.out; omega⟩, ⟨by (with_reducible repeat (first | apply Kd.R_alloc | apply Kd.R_drewN | apply Kd.R_drew)); exact HO_5.out⟩, ⟨by (with_reducible repeat (first | apply Kd.R_alloc | apply Kd.R_drewN | apply Kd.R_drew)); exact HO_8.out⟩, ⟨b_now⟩⟩
                ·rw [if_neg c63] at H
                 exact absurd H (by simp)
               ·rw [if_neg c62] at H
                exact absurd H (by simp)
              ·rw [if_neg c61] at H
               have c61b0 : decide (x12_4 < (l0.length : Int)) = false := decide_eq_false c61
               clear c61
               by_cases c74 : ((t582 == 0) == (x11_4 == 0)) = true
               ·rw [if_pos c74] at H
                have c74b0 : ((t582 == 0) == (x11_4 == 0)) = true := c74
                (try (have c74b1 : decide ((t582 == 0) = (x11_4 == 0)) = true := by simpa using c74))
                (try (have c74b2 : ((t582 == 0) == (x11_4 == 0)) = true := by simpa using c74))
                clear c74
                replace H := Option.bind_eq_some_iff.mp H; obtain ⟨t603, A750, H⟩ := H; try dsimp only at H
                have A75 := Aside0.mk A750
                clear A750
                obtain rfl := Option.some.inj H
                go_wp2_with (first | (go_at_call 10; (with_reducible refine (stockadelaw05_wakes.calls k4  t603 _ ?side1 (by first | rfl | exact HRT.out) A75.out).mono ?_); (case side1 => repeat (first | exact (Kd.C_below HRG0.out HB.out) | (with_reducible refine Kd.C_alloc ?_ _) | (with_reducible refine Kd.C_drewN ?_ _) | (with_reducible refine Kd.C_drew ?_))); rintro e w76 ⟨rfl, hb⟩; replace HO_5 := Aside0.mk (Kd.R_below (by (with_reducible repeat (first | apply Kd.R_alloc | apply Kd.R_drewN | apply Kd.R_drew)); exact HO_5.out) hb); replace HO_8 := Aside0.mk (Kd.R_below (by (with_reducible repeat (first | apply Kd.R_alloc | apply Kd.R_drewN | apply Kd.R_drew)); exact HO_8.out) hb); replace HB := sh_b (w := w) hb; (try clear hb); (try clear hb2); (try clear hk); (try clear hi)))
                go_ret
                exact ⟨ret_now, b_now⟩
               ·rw [if_neg c74] at H
                have c74b0 : ((t582 == 0) == (x11_4 == 0)) = false := by simpa using c74
                (try (have c74b1 : decide ((t582 == 0) = (x11_4 == 0)) = false := by simpa using c74))
                (try (have c74b2 : ((t582 == 0) == (x11_4 == 0)) = false := by simpa using c74))
                (try (have c74b3 : ¬ ((t582 == 0) = (x11_4 == 0)) := by simpa using c74))
                clear c74
                obtain rfl := Option.some.inj H
                exact absurd HRT.out (by simp)
         ·rw [if_neg c26] at H
          exact absurd H (by simp)
        ·rw [if_neg c25] at H
         exact absurd H (by simp)

end Go.Proofs.YtkjcjlegokdpdaaDoor.P
