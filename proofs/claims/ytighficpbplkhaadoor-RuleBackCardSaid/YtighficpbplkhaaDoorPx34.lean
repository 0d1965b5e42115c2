/- Made by this session's driver over the kit's printer: for each Go function a Lean function with the same answers, and a proof that the Go call comes to these answers; no conditions but the ones each theorem names. -/
import Derived.Test.YtighficpbplkhaaDoorPx0
import Derived.Test.YtighficpbplkhaaDoorPx2
import Derived.Test.YtighficpbplkhaaDoorPx4
import Derived.Test.YtighficpbplkhaaDoorPx10
import Derived.Test.YtighficpbplkhaaDoorPx21
import Derived.Test.YtighficpbplkhaaDoorPx27
namespace Go.Proofs.YtighficpbplkhaaDoor.P
open Go.RowKit Go.Proofs.YtighficpbplkhaaDoorW.PrintWords Go.Proofs.YtighficpbplkhaaDoorW.PrintLast Go.Proofs.YtighficpbplkhaaDoorW.PrintMore
attribute [local go_sem] max2_int min2_int max_two min_two max_three min_three max_four min_four   -- for this text's walks alone
set_option linter.unusedVariables false
set_option linter.unusedSimpArgs false

/-! ### stockadelaw18_RuleBack: function 7 -/
mutual
def stockadelaw18_RuleBack.j0 : Nat → List (S46) → ByteArray → Bool → Option (Bool)
 | 0, _, _, _ => none
 | k + 1, x0, x1, x21 => if x21 = true then ((stockadelaw18_wakes.f k).bind fun t562 => (some t562)) else ((stockadelaw18_Table.f k x0).bind fun t563 => ((rule_Print.f k t563).bind fun bt566 => (if bt566.2 = 0 then ((rule_Parse.f k bt566.1).bind fun bt568 => (if bt568.2.2 = 0 then (if bt568.2.1 = 0 then ((stockadelaw18_Is.f k bt568.1 x0).bind fun t573 => (if t573 = true then (stockadelaw18_RuleBack.j1 k x1) else (some false))) else (some false)) else (some false))) else (if bt566.1.toList = ([] : List UInt8) then (stockadelaw18_RuleBack.j1 k x1) else (some false)))))
def stockadelaw18_RuleBack.j1 : Nat → ByteArray → Option (Bool)
 | 0, _ => none
 | k + 1, x1 => (rule_Parse.f k x1).bind fun bt574 => (if bt574.2.2 = 0 then ((rule_Check.f k bt574.1).bind fun bt579 => ((rule_Print.f k bt574.1).bind fun bt581 => (if bt574.2.1 = 0 then (if bt579.2 = 0 then (if bt581.2 = 0 then (if bt581.1.toList = x1.toList then ((stockadelaw18_wakes.f k).bind fun t583 => (some t583)) else (some false)) else (some false)) else (some false)) else (some false)))) else (if (bt574.1.length : Int) = 0 then (if bt574.2.1 > 0 then ((stockadelaw18_wakes.f k).bind fun t584 => (some t584)) else (some false)) else (some false)))
end
def stockadelaw18_RuleBack.f (k : Nat) (l0 : List (S46)) (a1 : ByteArray) : Option (Bool) := (stockadelaw18_large.f k l0).bind fun t561 => (if t561 = true then (stockadelaw18_RuleBack.j0 k l0 a1 true) else (stockadelaw18_RuleBack.j0 k l0 a1 (decide ((a1.size : Int) > 6000))))
theorem stockadelaw18_RuleBack.mono_l : ∀ k, (∀ y0 y1 y2, LeO (stockadelaw18_RuleBack.j0 k y0 y1 y2) (stockadelaw18_RuleBack.j0 (k + 1) y0 y1 y2)) ∧ (∀ y0, LeO (stockadelaw18_RuleBack.j1 k y0) (stockadelaw18_RuleBack.j1 (k + 1) y0))
 | 0 => ⟨fun _ _ _ r h => by simp [stockadelaw18_RuleBack.j0] at h, fun _ r h => by simp [stockadelaw18_RuleBack.j1] at h⟩
 | k + 1 => by
  obtain ⟨ih0, ih1⟩ := stockadelaw18_RuleBack.mono_l k
  refine ⟨?_, ?_⟩
  ·intro y0 y1 y2
   unfold stockadelaw18_RuleBack.j0
   repeat' first
   | (with_reducible exact ih0 _ _ _)
   | (with_reducible exact ih1 _)
   | (with_reducible exact rule_Check.mono _ _)
   | (with_reducible exact rule_Parse.mono _ _)
   | (with_reducible exact rule_Print.mono _ _)
   | (with_reducible exact stockadelaw18_Is.mono _ _ _)
   | (with_reducible exact stockadelaw18_Table.mono _ _)
   | (with_reducible exact stockadelaw18_large.mono _ _)
   | (with_reducible exact stockadelaw18_wakes.mono _)
   | (with_reducible exact LeO.refl _)
   | (with_reducible exact LeO.none _)
   | (with_reducible refine LeO.ite ?_ ?_)
   | (with_reducible refine LeO.bind ?_ (fun _ => ?_))
   | exact ih0 _ _ _
   | exact ih1 _
   | exact rule_Check.mono _ _
   | exact rule_Parse.mono _ _
   | exact rule_Print.mono _ _
   | exact stockadelaw18_Is.mono _ _ _
   | exact stockadelaw18_Table.mono _ _
   | exact stockadelaw18_large.mono _ _
   | exact stockadelaw18_wakes.mono _
   | exact LeO.none _
   | refine LeO.ite ?_ ?_
   | refine LeO.bind ?_ (fun _ => ?_)
  ·intro y0
   unfold stockadelaw18_RuleBack.j1
   repeat' first
   | (with_reducible exact ih0 _ _ _)
   | (with_reducible exact ih1 _)
   | (with_reducible exact rule_Check.mono _ _)
   | (with_reducible exact rule_Parse.mono _ _)
   | (with_reducible exact rule_Print.mono _ _)
   | (with_reducible exact stockadelaw18_Is.mono _ _ _)
   | (with_reducible exact stockadelaw18_Table.mono _ _)
   | (with_reducible exact stockadelaw18_large.mono _ _)
   | (with_reducible exact stockadelaw18_wakes.mono _)
   | (with_reducible exact LeO.refl _)
   | (with_reducible exact LeO.none _)
   | (with_reducible refine LeO.ite ?_ ?_)
   | (with_reducible refine LeO.bind ?_ (fun _ => ?_))
   | exact ih0 _ _ _
   | exact ih1 _
   | exact rule_Check.mono _ _
   | exact rule_Parse.mono _ _
   | exact rule_Print.mono _ _
   | exact stockadelaw18_Is.mono _ _ _
   | exact stockadelaw18_Table.mono _ _
   | exact stockadelaw18_large.mono _ _
   | exact stockadelaw18_wakes.mono _
   | exact LeO.none _
   | refine LeO.ite ?_ ?_
   | refine LeO.bind ?_ (fun _ => ?_)
theorem stockadelaw18_RuleBack.mono : ∀ a0 a1 k, LeO (stockadelaw18_RuleBack.f k a0 a1) (stockadelaw18_RuleBack.f (k + 1) a0 a1) := by
 intro a0 a1 k
 obtain ⟨ih0, ih1⟩ := stockadelaw18_RuleBack.mono_l k
 unfold stockadelaw18_RuleBack.f
 repeat' first
   | (with_reducible exact ih0 _ _ _)
   | (with_reducible exact ih1 _)
   | (with_reducible exact rule_Check.mono _ _)
   | (with_reducible exact rule_Parse.mono _ _)
   | (with_reducible exact rule_Print.mono _ _)
   | (with_reducible exact stockadelaw18_Is.mono _ _ _)
   | (with_reducible exact stockadelaw18_Table.mono _ _)
   | (with_reducible exact stockadelaw18_large.mono _ _)
   | (with_reducible exact stockadelaw18_wakes.mono _)
   | (with_reducible exact LeO.refl _)
   | (with_reducible exact LeO.none _)
   | (with_reducible refine LeO.ite ?_ ?_)
   | (with_reducible refine LeO.bind ?_ (fun _ => ?_))
   | exact ih0 _ _ _
   | exact ih1 _
   | exact rule_Check.mono _ _
   | exact rule_Parse.mono _ _
   | exact rule_Print.mono _ _
   | exact stockadelaw18_Is.mono _ _ _
   | exact stockadelaw18_Table.mono _ _
   | exact stockadelaw18_large.mono _ _
   | exact stockadelaw18_wakes.mono _
   | exact LeO.none _
   | refine LeO.ite ?_ ?_
   | refine LeO.bind ?_ (fun _ => ?_)
set_option maxHeartbeats 8000000 in
set_option maxRecDepth 100000 in
theorem stockadelaw18_RuleBack.calls (k : Nat) (A0 : Option Addr) (c0 : Nat) (l0 : List (S46)) (a1 : ByteArray) (r : Bool) (w : World) (hr0 : Kd.C k46 w A0 l0.length l0) (hc0 : l0.length ≤ c0) (hrG0 : Kd.C kGF w (some ⟨0, 0, none⟩) gl0.length gl0) (hr_ : r = true) (h : stockadelaw18_RuleBack.f k l0 a1 = some r) :
  Calls Tryd.prog 7 #[.slice A0 l0.length c0, .string a1] w fun e w' => e = .returned (.bool r) ∧ Below w.heap.size w w' := by
 have HR0 := Aside0.mk hr0
 have HC0 := Aside0.mk hc0
 clear hr0 hc0
 have HRG0 := Aside0.mk hrG0
 clear hrG0
 have HRT := Aside0.mk hr_
 clear hr_
 have HB := Aside0.mk (Below.refl w.heap.size w)
 have H : ((stockadelaw18_large.f k l0).bind fun t561 => (if t561 = true then (stockadelaw18_RuleBack.j0 k l0 a1 true) else (stockadelaw18_RuleBack.j0 k l0 a1 (decide ((a1.size : Int) > 6000))))) = some r := h
 clear h
 have HC3 := Aside0.mk H
 clear H
 go_enter Tryd.func7, Tryd.ntmps7
 go_upto_region 1 with (fail)
 go_cut [21] (fun v21 wc => ∃ (kq : Nat) (x21_2 : Bool), v21 = .bool x21_2 ∧ Aside0 (stockadelaw18_RuleBack.j0 kq l0 a1 x21_2 = some r) ∧ Aside0 (kq ≤ k) ∧ Aside0 (Below w.heap.size w wc))
 case first =>
  have H := HC3.out
  clear HC3
  replace H := Option.bind_eq_some_iff.mp H; obtain ⟨t561, A40, H⟩ := H; try dsimp only at H
  have A4 := Aside0.mk A40
  clear A40
  by_cases c5 : t561 = true
  ·subst c5
   replace H := sh_t H
   have H' := Aside0.mk H
   clear H
   go_wp2_with (first | ((with_reducible refine gate_callee (f := 10) rfl ?_); refine sh_call (some 16) Tryd.func10 #[.slice A0 l0.length c0] ?_; (with_reducible refine (stockadelaw18_large.calls k _ _ l0 true _ ?side1 ?side2 A4.out).mono ?_); (case side1 => repeat (first | exact (Kd.C_below HR0.out HB.out) | (with_reducible refine Kd.C_alloc ?_ _) | (with_reducible refine Kd.C_drewN ?_ _) | (with_reducible refine Kd.C_drew ?_))); (case side2 => exact HC0.out); rintro e w' ⟨rfl, ⟨nd, rfl⟩⟩; refine ⟨_, rfl, ?_⟩))
   go_meet
   case rel => exact ⟨_, (true), eq_now, H', ⟨by first | omega | exact Nat.le_refl _⟩, ⟨b_now⟩⟩
  ·replace c5 := Bool.eq_false_iff.mpr c5
   subst c5
   replace H := sh_f H
   have H' := Aside0.mk H
   clear H
   go_wp2_with (first | ((with_reducible refine gate_callee (f := 10) rfl ?_); refine sh_call (some 16) Tryd.func10 #[.slice A0 l0.length c0] ?_; (with_reducible refine (stockadelaw18_large.calls k _ _ l0 false _ ?side1 ?side2 A4.out).mono ?_); (case side1 => repeat (first | exact (Kd.C_below HR0.out HB.out) | (with_reducible refine Kd.C_alloc ?_ _) | (with_reducible refine Kd.C_drewN ?_ _) | (with_reducible refine Kd.C_drew ?_))); (case side2 => exact HC0.out); rintro e w' ⟨rfl, ⟨nd, rfl⟩⟩; refine ⟨_, rfl, ?_⟩))
   go_meet
   case rel => exact ⟨_, (decide ((a1.size : Int) > 6000)), eq_now, H', ⟨by first | omega | exact Nat.le_refl _⟩, ⟨b_now⟩⟩
 case rest =>
  clear HC3
  obtain ⟨kq, x21_2, rfl, HA, HJ2, HB⟩ := hcut
  cases kq with
  | zero => exact absurd HA.out (by simp [stockadelaw18_RuleBack.j0])
  | succ kj2 =>
   have H := HA.out
   clear HA
   simp only [stockadelaw18_RuleBack.j0] at H
   by_cases c6 : x21_2 = true
   ·subst c6
    replace H := sh_t H
    replace H := Option.bind_eq_some_iff.mp H; obtain ⟨t562, A70, H⟩ := H; try dsimp only at H
    have A7 := Aside0.mk A70
    clear A70
    obtain rfl := Option.some.inj H
    go_wp2_with (first | ((with_reducible refine gate_callee (f := 11) rfl ?_); refine sh_call (some 22) Tryd.func11 #[] ?_; (with_reducible refine (stockadelaw18_wakes.calls kj2  t562 _ ?side1 (by first | rfl | exact HRT.out) A7.out).mono ?_); (case side1 => repeat (first | exact (Kd.C_below HRG0.out HB.out) | (with_reducible refine Kd.C_alloc ?_ _) | (with_reducible refine Kd.C_drewN ?_ _) | (with_reducible refine Kd.C_drew ?_))); rintro e w8 ⟨rfl, hb⟩; refine ⟨_, rfl, ?_⟩; replace HB := sh_b (w := w) hb; (try clear hb); (try clear hb2); (try clear hk); (try clear hi)))
    go_ret
    exact ⟨ret_now, b_now⟩
   ·replace c6 := Bool.eq_false_iff.mpr c6
    subst c6
    replace H := sh_f H
    replace H := Option.bind_eq_some_iff.mp H; obtain ⟨t563, A90, H⟩ := H; try dsimp only at H
    have A9 := Aside0.mk A90
    clear A90
    replace H := Option.bind_eq_some_iff.mp H; obtain ⟨⟨t566, t567⟩, A100, H⟩ := H; try dsimp only at H
    have A10 := Aside0.mk A100
    clear A100
    have HC11 := Aside0.mk H
    clear H
    go_upto_if 30 with (first | ((with_reducible refine gate_callee (f := 12) rfl ?_); refine sh_call (some 25) Tryd.func12 #[.slice A0 l0.length c0] ?_; (with_reducible refine (stockadelaw18_Table.calls kj2 _ _ l0 t563 _ ?side1 ?side2 A9.out).mono ?_); (case side1 => repeat (first | exact (Kd.C_below HR0.out HB.out) | (with_reducible refine Kd.C_alloc ?_ _) | (with_reducible refine Kd.C_drewN ?_ _) | (with_reducible refine Kd.C_drew ?_))); (case side2 => exact HC0.out); rintro e w12 ⟨v564, rfl, ho0, hb⟩; refine ⟨_, rfl, ?_⟩; have HO565 := Aside0.mk (Kd.S_lower ho0 (below_size b_now)); replace HB := sh_b (w := w) hb; (try clear hb); (try clear hb2); (try clear hk); (try clear hi); (try clear ho0); obtain ⟨Ao13, co13, eo13⟩ := Kd.S_slice HO565.out; subst eo13) | ((with_reducible refine gate_callee (f := 15) rfl ?_); refine sh_call (some 26) Tryd.func15 #[.slice Ao13 t563.length co13] ?_; (with_reducible refine (rule_Print.calls kj2 _ _ t563 t566 t567 _ ?side1 ?side2 ?side3 A10.out).mono ?_); (case side1 => repeat (first | exact (Kd.S_reads' HO565.out).2.2 | (with_reducible refine Kd.C_alloc ?_ _) | (with_reducible refine Kd.C_drewN ?_ _) | (with_reducible refine Kd.C_drew ?_))); (case side2 => exact (Kd.S_reads' HO565.out).2.1); (case side3 => repeat (first | exact (Kd.C_below HRG0.out HB.out) | (with_reducible refine Kd.C_alloc ?_ _) | (with_reducible refine Kd.C_drewN ?_ _) | (with_reducible refine Kd.C_drew ?_))); rintro e w14 ⟨rfl, hb⟩; refine ⟨_, rfl, ?_⟩; replace HO565 := Aside0.mk (Kd.S_below (by (with_reducible repeat (first | apply Kd.S_alloc | apply Kd.S_drewN | apply Kd.S_drew)); exact HO565.out) hb); replace HB := sh_b (w := w) hb; (try clear hb); (try clear hb2); (try clear hk); (try clear hi)))
    (try simp only [Act.put, List.setIfInBounds_toArray, List.set_cons_zero, List.set_cons_succ])
    go_cut [] (fun wc => ∃ (kq : Nat), Aside0 (stockadelaw18_RuleBack.j1 kq a1 = some r) ∧ Aside0 (kq ≤ kj2) ∧ Aside0 (Below w.heap.size w wc))
    case first =>
     have H := HC11.out
     clear HC11
     by_cases c15 : t567 = 0
     ·rw [if_pos c15] at H
      have c15b0 : (t567 == 0) = true := beq_iff_eq.mpr c15
      have c15b1 : (t567 != 0) = false := bne_eq_false_iff_eq.mpr c15
      clear c15
      (first | rw [c15b0] | (simp only [i64_w, i32_w]; rw [c15b0]) | skip)
      replace H := Option.bind_eq_some_iff.mp H; obtain ⟨⟨t568, t569, t570⟩, A160, H⟩ := H; try dsimp only at H
      have A16 := Aside0.mk A160
      clear A160
      by_cases c17 : t570 = 0
      ·rw [if_pos c17] at H
       have c17b0 : (t570 == 0) = true := beq_iff_eq.mpr c17
       have c17b1 : (t570 != 0) = false := bne_eq_false_iff_eq.mpr c17
       clear c17
       by_cases c18 : t569 = 0
       ·rw [if_pos c18] at H
        have c18b0 : (t569 == 0) = true := beq_iff_eq.mpr c18
        have c18b1 : (t569 != 0) = false := bne_eq_false_iff_eq.mpr c18
        clear c18
        replace H := Option.bind_eq_some_iff.mp H; obtain ⟨t573, A190, H⟩ := H; try dsimp only at H
        have A19 := Aside0.mk A190
        clear A190
        by_cases c20 : t573 = true
        ·subst c20
         replace H := sh_t H
         have H' := Aside0.mk H
         clear H
         go_wp2_with (first | ((with_reducible refine gate_callee (f := 22) rfl ?_); refine sh_call (some 33) Tryd.func22 #[.string t566] ?_; (with_reducible refine (rule_Parse.calls kj2 t566 t568 t569 t570 _ ?side1 A16.out).mono ?_); (case side1 => repeat (first | exact (Kd.C_below HRG0.out HB.out) | (with_reducible refine Kd.C_alloc ?_ _) | (with_reducible refine Kd.C_drewN ?_ _) | (with_reducible refine Kd.C_drew ?_))); rintro e w21 ⟨v571, rfl, ho0, hb⟩; refine ⟨_, rfl, ?_⟩; have HO572 := Aside0.mk (Kd.S_lower (Kd.S_new' ho0 (Kd.S_lt (by (with_reducible repeat (first | apply Kd.S_alloc | apply Kd.S_drewN | apply Kd.S_drew)); exact HO565.out))) (below_size b_now)); replace HO565 := Aside0.mk (Kd.S_elder' (by (with_reducible repeat (first | apply Kd.S_alloc | apply Kd.S_drewN | apply Kd.S_drew)); exact HO565.out) (Kd.S_base ho0) hb); replace HB := sh_b (w := w) hb; (try clear hb); (try clear hb2); (try clear hk); (try clear hi); (try clear ho0); obtain ⟨Ao22, co22, eo22⟩ := Kd.S_slice HO572.out; subst eo22) | (go_at_call 17; (with_reducible refine (stockadelaw18_Is.calls kj2 _ _ t568 _ _ l0 true _ ?side1 ?side2 ?side3 ?side4 A19.out).mono ?_); (case side1 => repeat (first | exact (Kd.S_reads' HO572.out).2.2 | (with_reducible refine Kd.C_alloc ?_ _) | (with_reducible refine Kd.C_drewN ?_ _) | (with_reducible refine Kd.C_drew ?_))); (case side2 => exact (Kd.S_reads' HO572.out).2.1); (case side3 => repeat (first | exact (Kd.C_below HR0.out HB.out) | (with_reducible refine Kd.C_alloc ?_ _) | (with_reducible refine Kd.C_drewN ?_ _) | (with_reducible refine Kd.C_drew ?_))); (case side4 => exact HC0.out); rintro e w23 ⟨rfl, hb⟩; replace HO565 := Aside0.mk (Kd.S_below (by (with_reducible repeat (first | apply Kd.S_alloc | apply Kd.S_drewN | apply Kd.S_drew)); exact HO565.out) hb); replace HO572 := Aside0.mk (Kd.S_below (by (with_reducible repeat (first | apply Kd.S_alloc | apply Kd.S_drewN | apply Kd.S_drew)); exact HO572.out) hb); replace HB := sh_b (w := w) hb; (try clear hb); (try clear hb2); (try clear hk); (try clear hi)))
         go_meet
         case rel => exact ⟨_, H', ⟨by have := HJ2.out; first | omega | exact Nat.le_refl _⟩, ⟨b_now⟩⟩
        ·replace c20 := Bool.eq_false_iff.mpr c20
         subst c20
         replace H := sh_f H
         obtain rfl := Option.some.inj H
         exact absurd HRT.out (by simp)
       ·rw [if_neg c18] at H
        have c18b0 : (t569 == 0) = false := beq_eq_false_iff_ne.mpr c18
        have c18b1 : (t569 != 0) = true := bne_iff_ne.mpr c18
        obtain rfl := Option.some.inj H
        exact absurd HRT.out (by simp)
      ·rw [if_neg c17] at H
       have c17b0 : (t570 == 0) = false := beq_eq_false_iff_ne.mpr c17
       have c17b1 : (t570 != 0) = true := bne_iff_ne.mpr c17
       obtain rfl := Option.some.inj H
       exact absurd HRT.out (by simp)
     ·rw [if_neg c15] at H
      have c15b0 : (t567 == 0) = false := beq_eq_false_iff_ne.mpr c15
      have c15b1 : (t567 != 0) = true := bne_iff_ne.mpr c15
      (first | rw [c15b0] | (simp only [i64_w, i32_w]; rw [c15b0]) | skip)
      by_cases c24 : t566.toList = ([] : List UInt8)
      ·rw [if_pos c24] at H
       have c24b0 : (t566.toList == ([] : List UInt8)) = true := beq_iff_eq.mpr c24
       have c24b1 : (t566.toList != ([] : List UInt8)) = false := bne_eq_false_iff_eq.mpr c24
       clear c24
       have H' := Aside0.mk H
       clear H
       go_wp2
       go_meet
       case rel => exact ⟨_, H', ⟨by have := HJ2.out; first | omega | exact Nat.le_refl _⟩, ⟨b_now⟩⟩
      ·rw [if_neg c24] at H
       have c24b0 : (t566.toList == ([] : List UInt8)) = false := beq_eq_false_iff_ne.mpr c24
       have c24b1 : (t566.toList != ([] : List UInt8)) = true := bne_iff_ne.mpr c24
       obtain rfl := Option.some.inj H
       exact absurd HRT.out (by simp)
    case rest =>
     clear HC11
     obtain ⟨kq, HA, HJ10, HB⟩ := hcut
     cases kq with
     | zero => exact absurd HA.out (by simp [stockadelaw18_RuleBack.j1])
     | succ kj10 =>
      have H := HA.out
      clear HA
      simp only [stockadelaw18_RuleBack.j1] at H
      replace H := Option.bind_eq_some_iff.mp H; obtain ⟨⟨t574, t575, t576⟩, A250, H⟩ := H; try dsimp only at H
      have A25 := Aside0.mk A250
      clear A250
      by_cases c26 : t576 = 0
      ·rw [if_pos c26] at H
       have c26b0 : (t576 == 0) = true := beq_iff_eq.mpr c26
       have c26b1 : (t576 != 0) = false := bne_eq_false_iff_eq.mpr c26
       clear c26
       replace H := Option.bind_eq_some_iff.mp H; obtain ⟨⟨t579, t580⟩, A270, H⟩ := H; try dsimp only at H
       have A27 := Aside0.mk A270
       clear A270
       replace H := Option.bind_eq_some_iff.mp H; obtain ⟨⟨t581, t582⟩, A280, H⟩ := H; try dsimp only at H
       have A28 := Aside0.mk A280
       clear A280
       by_cases c29 : t575 = 0
       ·rw [if_pos c29] at H
        have c29b0 : (t575 == 0) = true := beq_iff_eq.mpr c29
        have c29b1 : (t575 != 0) = false := bne_eq_false_iff_eq.mpr c29
        clear c29
        by_cases c30 : t580 = 0
        ·rw [if_pos c30] at H
         have c30b0 : (t580 == 0) = true := beq_iff_eq.mpr c30
         have c30b1 : (t580 != 0) = false := bne_eq_false_iff_eq.mpr c30
         clear c30
         by_cases c31 : t582 = 0
         ·rw [if_pos c31] at H
          have c31b0 : (t582 == 0) = true := beq_iff_eq.mpr c31
          have c31b1 : (t582 != 0) = false := bne_eq_false_iff_eq.mpr c31
          clear c31
          by_cases c32 : t581.toList = a1.toList
          ·rw [if_pos c32] at H
           have c32b0 : (t581.toList == a1.toList) = true := beq_iff_eq.mpr c32
           have c32b1 : (t581.toList != a1.toList) = false := bne_eq_false_iff_eq.mpr c32
           clear c32
           replace H := Option.bind_eq_some_iff.mp H; obtain ⟨t583, A330, H⟩ := H; try dsimp only at H
           have A33 := Aside0.mk A330
           clear A330
           obtain rfl := Option.some.inj H
           go_wp2_with (first | ((with_reducible refine gate_callee (f := 22) rfl ?_); refine sh_call (some 53) Tryd.func22 #[.string a1] ?_; (with_reducible refine (rule_Parse.calls kj10 a1 t574 t575 t576 _ ?side1 A25.out).mono ?_); (case side1 => repeat (first | exact (Kd.C_below HRG0.out HB.out) | (with_reducible refine Kd.C_alloc ?_ _) | (with_reducible refine Kd.C_drewN ?_ _) | (with_reducible refine Kd.C_drew ?_))); rintro e w34 ⟨v577, rfl, ho0, hb⟩; refine ⟨_, rfl, ?_⟩; have HO578 := Aside0.mk (Kd.S_lower ho0 (below_size b_now)); replace HB := sh_b (w := w) hb; (try clear hb); (try clear hb2); (try clear hk); (try clear hi); (try clear ho0); obtain ⟨Ao35, co35, eo35⟩ := Kd.S_slice HO578.out; subst eo35) | ((with_reducible refine gate_callee (f := 13) rfl ?_); refine sh_call (some 71) Tryd.func13 #[.slice Ao35 t574.length co35] ?_; (with_reducible refine (rule_Check.calls kj10 _ _ t574 t579 t580 _ ?side1 ?side2 A27.out).mono ?_); (case side1 => repeat (first | exact (Kd.S_reads' HO578.out).2.2 | (with_reducible refine Kd.C_alloc ?_ _) | (with_reducible refine Kd.C_drewN ?_ _) | (with_reducible refine Kd.C_drew ?_))); (case side2 => exact (Kd.S_reads' HO578.out).2.1); rintro e w36 ⟨rfl, hb⟩; refine ⟨_, rfl, ?_⟩; replace HO578 := Aside0.mk (Kd.S_below (by (with_reducible repeat (first | apply Kd.S_alloc | apply Kd.S_drewN | apply Kd.S_drew)); exact HO578.out) hb); replace HB := sh_b (w := w) hb; (try clear hb); (try clear hb2); (try clear hk); (try clear hi)) | ((with_reducible refine gate_callee (f := 15) rfl ?_); refine sh_call (some 76) Tryd.func15 #[.slice Ao35 t574.length co35] ?_; (with_reducible refine (rule_Print.calls kj10 _ _ t574 t581 t582 _ ?side1 ?side2 ?side3 A28.out).mono ?_); (case side1 => repeat (first | exact (Kd.S_reads' HO578.out).2.2 | (with_reducible refine Kd.C_alloc ?_ _) | (with_reducible refine Kd.C_drewN ?_ _) | (with_reducible refine Kd.C_drew ?_))); (case side2 => exact (Kd.S_reads' HO578.out).2.1); (case side3 => repeat (first | exact (Kd.C_below HRG0.out HB.out) | (with_reducible refine Kd.C_alloc ?_ _) | (with_reducible refine Kd.C_drewN ?_ _) | (with_reducible refine Kd.C_drew ?_))); rintro e w37 ⟨rfl, hb⟩; refine ⟨_, rfl, ?_⟩; replace HO578 := Aside0.mk (Kd.S_below (by (with_reducible repeat (first | apply Kd.S_alloc | apply Kd.S_drewN | apply Kd.S_drew)); exact HO578.out) hb); replace HB := sh_b (w := w) hb; (try clear hb); (try clear hb2); (try clear hk); (try clear hi)) | (go_at_call 11; (with_reducible refine (stockadelaw18_wakes.calls kj10  t583 _ ?side1 (by first | rfl | exact HRT.out) A33.out).mono ?_); (case side1 => repeat (first | exact (Kd.C_below HRG0.out HB.out) | (with_reducible refine Kd.C_alloc ?_ _) | (with_reducible refine Kd.C_drewN ?_ _) | (with_reducible refine Kd.C_drew ?_))); rintro e w38 ⟨rfl, hb⟩; replace HO578 := Aside0.mk (Kd.S_below (by (with_reducible repeat (first | apply Kd.S_alloc | apply Kd.S_drewN | apply Kd.S_drew)); exact HO578.out) hb); replace HB := sh_b (w := w) hb; (try clear hb); (try clear hb2); (try clear hk); (try clear hi)))
           go_ret
           exact ⟨ret_now, b_now⟩
          ·rw [if_neg c32] at H
           have c32b0 : (t581.toList == a1.toList) = false := beq_eq_false_iff_ne.mpr c32
           have c32b1 : (t581.toList != a1.toList) = true := bne_iff_ne.mpr c32
           obtain rfl := Option.some.inj H
           exact absurd HRT.out (by simp)
         ·rw [if_neg c31] at H
          have c31b0 : (t582 == 0) = false := beq_eq_false_iff_ne.mpr c31
          have c31b1 : (t582 != 0) = true := bne_iff_ne.mpr c31
          obtain rfl := Option.some.inj H
          exact absurd HRT.out (by simp)
        ·rw [if_neg c30] at H
         have c30b0 : (t580 == 0) = false := beq_eq_false_iff_ne.mpr c30
         have c30b1 : (t580 != 0) = true := bne_iff_ne.mpr c30
         obtain rfl := Option.some.inj H
         exact absurd HRT.out (by simp)
       ·rw [if_neg c29] at H
        have c29b0 : (t575 == 0) = false := beq_eq_false_iff_ne.mpr c29
        have c29b1 : (t575 != 0) = true := bne_iff_ne.mpr c29
        obtain rfl := Option.some.inj H
        exact absurd HRT.out (by simp)
      ·rw [if_neg c26] at H
       have c26b0 : (t576 == 0) = false := beq_eq_false_iff_ne.mpr c26
       have c26b1 : (t576 != 0) = true := bne_iff_ne.mpr c26
       by_cases c39 : (t574.length : Int) = 0
       ·rw [if_pos c39] at H
        have c39b0 : ((t574.length : Int) == 0) = true := beq_iff_eq.mpr c39
        have c39b1 : ((t574.length : Int) != 0) = false := bne_eq_false_iff_eq.mpr c39
        clear c39
        by_cases c40 : t575 > 0
        ·rw [if_pos c40] at H
         have c40b0 : decide (0 < t575) = true := decide_eq_true c40
         clear c40
         replace H := Option.bind_eq_some_iff.mp H; obtain ⟨t584, A410, H⟩ := H; try dsimp only at H
         have A41 := Aside0.mk A410
         clear A410
         obtain rfl := Option.some.inj H
         go_wp2_with (first | ((with_reducible refine gate_callee (f := 22) rfl ?_); refine sh_call (some 53) Tryd.func22 #[.string a1] ?_; (with_reducible refine (rule_Parse.calls kj10 a1 t574 t575 t576 _ ?side1 A25.out).mono ?_); (case side1 => repeat (first | exact (Kd.C_below HRG0.out HB.out) | (with_reducible refine Kd.C_alloc ?_ _) | (with_reducible refine Kd.C_drewN ?_ _) | (with_reducible refine Kd.C_drew ?_))); rintro e w42 ⟨v577, rfl, ho0, hb⟩; refine ⟨_, rfl, ?_⟩; have HO578 := Aside0.mk (Kd.S_lower ho0 (below_size b_now)); replace HB := sh_b (w := w) hb; (try clear hb); (try clear hb2); (try clear hk); (try clear hi); (try clear ho0); obtain ⟨Ao43, co43, eo43⟩ := Kd.S_slice HO578.out; subst eo43) | (go_at_call 11; (with_reducible refine (stockadelaw18_wakes.calls kj10  t584 _ ?side1 (by first | rfl | exact HRT.out) A41.out).mono ?_); (case side1 => repeat (first | exact (Kd.C_below HRG0.out HB.out) | (with_reducible refine Kd.C_alloc ?_ _) | (with_reducible refine Kd.C_drewN ?_ _) | (with_reducible refine Kd.C_drew ?_))); rintro e w44 ⟨rfl, hb⟩; replace HO578 := Aside0.mk (Kd.S_below (by (with_reducible repeat (first | apply Kd.S_alloc | apply Kd.S_drewN | apply Kd.S_drew)); exact HO578.out) hb); replace HB := sh_b (w := w) hb; (try clear hb); (try clear hb2); (try clear hk); (try clear hi)))
         go_ret
         exact ⟨ret_now, b_now⟩
        ·rw [if_neg c40] at H
         have c40b0 : decide (0 < t575) = false := decide_eq_false c40
         clear c40
         obtain rfl := Option.some.inj H
         exact absurd HRT.out (by simp)
       ·rw [if_neg c39] at H
        have c39b0 : ((t574.length : Int) == 0) = false := beq_eq_false_iff_ne.mpr c39
        have c39b1 : ((t574.length : Int) != 0) = true := bne_iff_ne.mpr c39
        have c39b2 : ¬ (t574 = []) := fun h_ => c39 (by rw [h_]; rfl)
        obtain rfl := Option.some.inj H
        exact absurd HRT.out (by simp)

end Go.Proofs.YtighficpbplkhaaDoor.P
