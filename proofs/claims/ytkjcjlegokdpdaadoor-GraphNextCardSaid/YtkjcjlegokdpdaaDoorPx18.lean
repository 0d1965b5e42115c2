/- Made by this session's driver over the kit's printer: for each Go function a Lean function with the same answers, and a proof that the Go call comes to these answers; no conditions but the ones each theorem names. -/
import Derived.Test.YtkjcjlegokdpdaaDoorOw
import Derived.Test.YtkjcjlegokdpdaaDoorKp
import Derived.Test.YtkjcjlegokdpdaaDoorPx0
import Derived.Test.YtkjcjlegokdpdaaDoorPx7
import Derived.Test.YtkjcjlegokdpdaaDoorPx10
import Derived.Test.YtkjcjlegokdpdaaDoorPx11
import Derived.Test.YtkjcjlegokdpdaaDoorPx16
import Derived.Test.YtkjcjlegokdpdaaDoorPx17
namespace Go.Proofs.YtkjcjlegokdpdaaDoor.P
open Go.RowKit Go.Proofs.YtkjcjlegokdpdaaDoorW.PrintWords Go.Proofs.YtkjcjlegokdpdaaDoorW.PrintLast Go.Proofs.YtkjcjlegokdpdaaDoorW.PrintMore
attribute [local go_sem] max2_int min2_int max_two min_two max_three min_three max_four min_four   -- for this text's walks alone
set_option linter.unusedVariables false
set_option linter.unusedSimpArgs false

/-! ### stockadelaw05_GraphNext: function 3 -/
def stockadelaw05_GraphNext.l0 : Nat → List (S44) → List (S44) → List Int → List Int → List Int → Bool → Int → Option (Bool)
 | 0, _, _, _, _, _, _, _ => none
 | k + 1, x0, x5, x6, x7, x8, x9, x10 => if x10 < (x6.length : Int) then (if 0 ≤ x10 then (stockadelaw05_GraphNext.l0 k x0 x5 (x6.set (x10 : Int).toNat (-7)) x7 x8 x9 (wrap64 (x10 + 1))) else (none)) else (if x9 = true then ((stockadelaw05_ints.f k x7 x8).bind fun t422 => (if t422 = true then ((kept2.f k (x5 ++ [(⟨149, 0, 0, 7, 0⟩ : S44)]) x0).bind fun t423 => (if t423 = true then ((stockadelaw05_wakes.f k).bind fun t424 => (some t424)) else (some false))) else (some false))) else (some false))
def stockadelaw05_GraphNext.f (k : Nat) (l0 : List (S44)) (a1 : Int) : Option (Bool) := if (l0.length : Int) > 130 then ((stockadelaw05_wakes.f k).bind fun t407 => (some t407)) else ((stockadelaw05_own.f l0).bind fun t408 => ((graph_Next.f k t408 a1).bind fun t411 => ((graph_Next.f k t408 a1).bind fun t414 => ((stockaderef05_Next.f k l0 a1).bind fun t417 => ((stockadelaw05_ints.f k t411 t417).bind fun t420 => (stockadelaw05_GraphNext.l0 k l0 t408 t411 t414 t417 t420 0))))))
theorem stockadelaw05_GraphNext.mono_l : ∀ k, (∀ y0 y1 y2 y3 y4 y5 y6, LeO (stockadelaw05_GraphNext.l0 k y0 y1 y2 y3 y4 y5 y6) (stockadelaw05_GraphNext.l0 (k + 1) y0 y1 y2 y3 y4 y5 y6))
 | 0 => fun _ _ _ _ _ _ _ r h => by simp [stockadelaw05_GraphNext.l0] at h
 | k + 1 => by
  have ih0 := stockadelaw05_GraphNext.mono_l k
  ·intro y0 y1 y2 y3 y4 y5 y6
   unfold stockadelaw05_GraphNext.l0
   repeat' first
   | (with_reducible exact ih0 _ _ _ _ _ _ _)
   | (with_reducible exact graph_Next.mono _ _ _)
   | (with_reducible exact stockadelaw05_ints.mono _ _ _)
   | (with_reducible exact kept2.mono _ _ _)
   | (with_reducible exact stockadelaw05_wakes.mono _)
   | (with_reducible exact stockaderef05_Next.mono _ _ _)
   | (with_reducible exact LeO.refl _)
   | (with_reducible exact LeO.none _)
   | (with_reducible refine LeO.ite ?_ ?_)
   | (with_reducible refine LeO.bind ?_ (fun _ => ?_))
   | exact ih0 _ _ _ _ _ _ _
   | exact graph_Next.mono _ _ _
   | exact stockadelaw05_ints.mono _ _ _
   | exact kept2.mono _ _ _
   | exact stockadelaw05_wakes.mono _
   | exact stockaderef05_Next.mono _ _ _
   | exact LeO.none _
   | refine LeO.ite ?_ ?_
   | refine LeO.bind ?_ (fun _ => ?_)
theorem stockadelaw05_GraphNext.mono : ∀ a0 a1 k, LeO (stockadelaw05_GraphNext.f k a0 a1) (stockadelaw05_GraphNext.f (k + 1) a0 a1) := by
 intro a0 a1 k
 have ih0 := stockadelaw05_GraphNext.mono_l k
 unfold stockadelaw05_GraphNext.f
 repeat' first
   | (with_reducible exact ih0 _ _ _ _ _ _ _)
   | (with_reducible exact graph_Next.mono _ _ _)
   | (with_reducible exact stockadelaw05_ints.mono _ _ _)
   | (with_reducible exact kept2.mono _ _ _)
   | (with_reducible exact stockadelaw05_wakes.mono _)
   | (with_reducible exact stockaderef05_Next.mono _ _ _)
   | (with_reducible exact LeO.refl _)
   | (with_reducible exact LeO.none _)
   | (with_reducible refine LeO.ite ?_ ?_)
   | (with_reducible refine LeO.bind ?_ (fun _ => ?_))
   | exact ih0 _ _ _ _ _ _ _
   | exact graph_Next.mono _ _ _
   | exact stockadelaw05_ints.mono _ _ _
   | exact kept2.mono _ _ _
   | exact stockadelaw05_wakes.mono _
   | exact stockaderef05_Next.mono _ _ _
   | exact LeO.none _
   | refine LeO.ite ?_ ?_
   | refine LeO.bind ?_ (fun _ => ?_)
set_option maxHeartbeats 8000000 in
set_option maxRecDepth 100000 in
theorem stockadelaw05_GraphNext.calls (k : Nat) (A0 : Option Addr) (c0 : Nat) (l0 : List (S44)) (a1 : Int) (r : Bool) (w : World) (hr0 : Kd.C k44 w A0 l0.length l0) (hc0 : l0.length ≤ c0) (hrG0 : Kd.C (Kd.int .i64) w (some ⟨0, 0, none⟩) gl0.length gl0) (hr_ : r = true) (h : stockadelaw05_GraphNext.f k l0 a1 = some r) :
  Calls Tryd.prog 3 #[.slice A0 l0.length c0, .int .i64 a1] w fun e w' => e = .returned (.bool r) ∧ Below w.heap.size w w' := by
 have HR0 := Aside0.mk hr0
 have HC0 := Aside0.mk hc0
 clear hr0 hc0
 have HRG0 := Aside0.mk hrG0
 clear hrG0
 have HRT := Aside0.mk hr_
 clear hr_
 have HB := Aside0.mk (Below.refl w.heap.size w)
 have H : (if (l0.length : Int) > 130 then ((stockadelaw05_wakes.f k).bind fun t407 => (some t407)) else ((stockadelaw05_own.f l0).bind fun t408 => ((graph_Next.f k t408 a1).bind fun t411 => ((graph_Next.f k t408 a1).bind fun t414 => ((stockaderef05_Next.f k l0 a1).bind fun t417 => ((stockadelaw05_ints.f k t411 t417).bind fun t420 => (stockadelaw05_GraphNext.l0 k l0 t408 t411 t414 t417 t420 0))))))) = some r := h
 clear h
 by_cases c3 : (l0.length : Int) > 130
 ·rw [if_pos c3] at H
  have c3b0 : decide (130 < (l0.length : Int)) = true := decide_eq_true c3
  have c3b1 : decide (130 < l0.length) = true := decide_eq_true (by omega)
  clear c3
  replace H := Option.bind_eq_some_iff.mp H; obtain ⟨t407, A40, H⟩ := H; try dsimp only at H
  have A4 := Aside0.mk A40
  clear A40
  obtain rfl := Option.some.inj H
  go_enter Tryd.func3, Tryd.ntmps3
  go_wp2_with (first | ((with_reducible refine gate_callee (f := 10) rfl ?_); refine sh_call (some 14) Tryd.func10 #[] ?_; (with_reducible refine (stockadelaw05_wakes.calls k  t407 _ ?side1 (by first | rfl | exact HRT.out) A4.out).mono ?_); (case side1 => repeat (first | exact HRG0.out | (with_reducible refine Kd.C_alloc ?_ _) | (with_reducible refine Kd.C_drewN ?_ _) | (with_reducible refine Kd.C_drew ?_))); rintro e w5 ⟨rfl, hb⟩; refine ⟨_, rfl, ?_⟩; replace HB := sh_b (w := w) hb; (try clear hb); (try clear hb2); (try clear hk); (try clear hi)))
  go_ret
  exact ⟨ret_now, b_now⟩
 ·rw [if_neg c3] at H
  have c3b0 : decide (130 < (l0.length : Int)) = false := decide_eq_false c3
  have c3b1 : decide (130 < l0.length) = false := decide_eq_false (by omega)
  clear c3
  replace H := Option.bind_eq_some_iff.mp H; obtain ⟨t408, A60, H⟩ := H; try dsimp only at H
  have A6 := Aside0.mk A60
  clear A60
  replace H := Option.bind_eq_some_iff.mp H; obtain ⟨t411, A70, H⟩ := H; try dsimp only at H
  have A7 := Aside0.mk A70
  clear A70
  replace H := Option.bind_eq_some_iff.mp H; obtain ⟨t414, A80, H⟩ := H; try dsimp only at H
  have A8 := Aside0.mk A80
  clear A80
  replace H := Option.bind_eq_some_iff.mp H; obtain ⟨t417, A90, H⟩ := H; try dsimp only at H
  have A9 := Aside0.mk A90
  clear A90
  replace H := Option.bind_eq_some_iff.mp H; obtain ⟨t420, A100, H⟩ := H; try dsimp only at H
  have A10 := Aside0.mk A100
  clear A100
  have H' := Aside0.mk H
  clear H
  go_enter Tryd.func3, Tryd.ntmps3
  go_wp2_with (first | ((with_reducible refine gate_callee (f := 11) rfl ?_); refine sh_call (some 16) Tryd.func11 #[.slice A0 l0.length c0] ?_; (with_reducible refine (own_calls3 _ _ l0 t408 _ ?side1 ?side2 A6.out).mono ?_); (case side1 => repeat (first | exact HR0.out | (with_reducible refine Kd.C_alloc ?_ _) | (with_reducible refine Kd.C_drewN ?_ _) | (with_reducible refine Kd.C_drew ?_))); (case side2 => exact HC0.out); rintro e w11 ⟨v409, rfl, ho0, hx0, hb⟩; refine ⟨_, rfl, ?_⟩; have HO410 := Aside0.mk (Kd.R_lower ho0 (below_size b_now)); obtain ⟨Ax_, cx_, ex_, hx1⟩ := hx0; have HX := Aside0.mk (Kd.R_lower hx1 (below_size b_now)); clear hx1; replace HB := sh_b (w := w) hb; (try clear hb); (try clear hb2); (try clear hk); (try clear hi); (try clear ho0); obtain ⟨Ao12, co12, eo12⟩ := Kd.R_slice HO410.out; subst eo12; obtain ⟨rfl, rfl⟩ : Ao12 = Ax_ ∧ co12 = cx_ := (by injection ex_ with e1_ e2_ e3_; exact ⟨e1_, e3_⟩)) | ((with_reducible refine gate_callee (f := 12) rfl ?_); refine sh_call (some 19) Tryd.func12 #[.slice Ao12 t408.length co12, .int .i64 a1] ?_; (with_reducible refine (graph_Next.calls k _ _ t408 a1 t411 _ ?side1 ?side2 ?side3 A7.out).mono ?_); (case side1 => repeat (first | exact (Kd.R_reads' HO410.out).2.2 | (with_reducible refine Kd.C_alloc ?_ _) | (with_reducible refine Kd.C_drewN ?_ _) | (with_reducible refine Kd.C_drew ?_))); (case side2 => exact (Kd.R_reads' HO410.out).2.1); (case side3 => repeat (first | exact (Kd.C_below HRG0.out HB.out) | (with_reducible refine Kd.C_alloc ?_ _) | (with_reducible refine Kd.C_drewN ?_ _) | (with_reducible refine Kd.C_drew ?_))); rintro e w13 ⟨v412, rfl, ho0, hb⟩; refine ⟨_, rfl, ?_⟩; have HO413 := Aside0.mk (Kd.R_lower ho0 (below_size b_now)); replace HO410 := Aside0.mk (Kd.R_below (by (with_reducible repeat (first | apply Kd.R_alloc | apply Kd.R_drewN | apply Kd.R_drew)); exact HO410.out) hb); replace HX := Aside0.mk (Kd.R_below (by (with_reducible repeat (first | apply Kd.R_alloc | apply Kd.R_drewN | apply Kd.R_drew)); exact HX.out) hb); replace HB := sh_b (w := w) hb; (try clear hb); (try clear hb2); (try clear hk); (try clear hi); (try clear ho0)) | ((with_reducible refine gate_callee (f := 12) rfl ?_); refine sh_call (some 22) Tryd.func12 #[.slice Ao12 t408.length co12, .int .i64 a1] ?_; (with_reducible refine (graph_Next.calls k _ _ t408 a1 t414 _ ?side1 ?side2 ?side3 A8.out).mono ?_); (case side1 => repeat (first | exact (Kd.R_reads' HO410.out).2.2 | (with_reducible refine Kd.C_alloc ?_ _) | (with_reducible refine Kd.C_drewN ?_ _) | (with_reducible refine Kd.C_drew ?_))); (case side2 => exact (Kd.R_reads' HO410.out).2.1); (case side3 => repeat (first | exact (Kd.C_below HRG0.out HB.out) | (with_reducible refine Kd.C_alloc ?_ _) | (with_reducible refine Kd.C_drewN ?_ _) | (with_reducible refine Kd.C_drew ?_))); rintro e w14 ⟨v415, rfl, ho0, hb⟩; refine ⟨_, rfl, ?_⟩; have HO416 := Aside0.mk (Kd.R_lower (Kd.R_new' ho0 (Kd.R_lt (by (with_reducible repeat (first | apply Kd.R_alloc | apply Kd.R_drewN | apply Kd.R_drew)); exact HO413.out))) (below_size b_now)); replace HO410 := Aside0.mk (Kd.R_below (by (with_reducible repeat (first | apply Kd.R_alloc | apply Kd.R_drewN | apply Kd.R_drew)); exact HO410.out) hb); replace HX := Aside0.mk (Kd.R_below (by (with_reducible repeat (first | apply Kd.R_alloc | apply Kd.R_drewN | apply Kd.R_drew)); exact HX.out) hb); replace HO413 := Aside0.mk (Kd.R_elder' (by (with_reducible repeat (first | apply Kd.R_alloc | apply Kd.R_drewN | apply Kd.R_drew)); exact HO413.out) (Kd.R_base ho0) hb); replace HB := sh_b (w := w) hb; (try clear hb); (try clear hb2); (try clear hk); (try clear hi); (try clear ho0)) | ((with_reducible refine gate_callee (f := 13) rfl ?_); refine sh_call (some 25) Tryd.func13 #[.slice A0 l0.length c0, .int .i64 a1] ?_; (with_reducible refine (stockaderef05_Next.calls k _ _ l0 a1 t417 _ ?side1 ?side2 A9.out).mono ?_); (case side1 => repeat (first | exact (Kd.C_below HR0.out HB.out) | (with_reducible refine Kd.C_alloc ?_ _) | (with_reducible refine Kd.C_drewN ?_ _) | (with_reducible refine Kd.C_drew ?_))); (case side2 => exact HC0.out); rintro e w15 ⟨v418, rfl, ho0, hb⟩; refine ⟨_, rfl, ?_⟩; have HO419 := Aside0.mk (Kd.R_lower (Kd.R_new' (Kd.R_new' ho0 (Kd.R_lt (by (with_reducible repeat (first | apply Kd.R_alloc | apply Kd.R_drewN | apply Kd.R_drew)); exact HO413.out))) (Kd.R_lt (by (with_reducible repeat (first | apply Kd.R_alloc | apply Kd.R_drewN | apply Kd.R_drew)); exact HO416.out))) (below_size b_now)); replace HO410 := Aside0.mk (Kd.R_below (by (with_reducible repeat (first | apply Kd.R_alloc | apply Kd.R_drewN | apply Kd.R_drew)); exact HO410.out) hb); replace HX := Aside0.mk (Kd.R_below (by (with_reducible repeat (first | apply Kd.R_alloc | apply Kd.R_drewN | apply Kd.R_drew)); exact HX.out) hb); replace HO413 := Aside0.mk (Kd.R_elder' (by (with_reducible repeat (first | apply Kd.R_alloc | apply Kd.R_drewN | apply Kd.R_drew)); exact HO413.out) (Kd.R_base ho0) hb); replace HO416 := Aside0.mk (Kd.R_elder' (by (with_reducible repeat (first | apply Kd.R_alloc | apply Kd.R_drewN | apply Kd.R_drew)); exact HO416.out) (Kd.R_base ho0) hb); replace HB := sh_b (w := w) hb; (try clear hb); (try clear hb2); (try clear hk); (try clear hi); (try clear ho0); obtain ⟨Ao16, co16, eo16⟩ := Kd.R_slice HO413.out; subst eo16; obtain ⟨Ao17, co17, eo17⟩ := Kd.R_slice HO419.out; subst eo17) | ((with_reducible refine gate_callee (f := 14) rfl ?_); refine sh_call (some 28) Tryd.func14 #[.slice Ao16 t411.length co16, .slice Ao17 t417.length co17] ?_; (with_reducible refine (stockadelaw05_ints.calls k _ _ t411 _ _ t417 t420 _ ?side1 ?side2 ?side3 ?side4 A10.out).mono ?_); (case side1 => repeat (first | exact (Kd.R_reads' HO413.out).2.2 | (with_reducible refine Kd.C_alloc ?_ _) | (with_reducible refine Kd.C_drewN ?_ _) | (with_reducible refine Kd.C_drew ?_))); (case side2 => exact (Kd.R_reads' HO413.out).2.1); (case side3 => repeat (first | exact (Kd.R_reads' HO419.out).2.2 | (with_reducible refine Kd.C_alloc ?_ _) | (with_reducible refine Kd.C_drewN ?_ _) | (with_reducible refine Kd.C_drew ?_))); (case side4 => exact (Kd.R_reads' HO419.out).2.1); rintro e w' ⟨rfl, ⟨nd, rfl⟩⟩; refine ⟨_, rfl, ?_⟩))
  go_loopg [10] k (fun kq v10 w' => ∃ (x6_1 : List Int) (x10_1 : Int), v10 = .int .i64 x10_1 ∧ Aside0 (stockadelaw05_GraphNext.l0 kq l0 t408 x6_1 t414 t417 t420 x10_1 = some r) ∧ Aside0 (kq ≤ k) ∧ Aside0 (Kd.R k44 44 w' w.heap.size (fun _ => True) (.slice Ao12 t408.length co12) t408) ∧ Aside0 (Kd.R k44 44 w' w.heap.size (fun _ => True) (.slice Ao12 (t408.length + 1) co12) (t408 ++ [(⟨149, 0, 0, 7, 0⟩ : S44)])) ∧ Aside0 (Kd.R (Kd.int .i64) 3 w' w.heap.size (fun k_ => some k_ ≠ (v415 : Value).ownBlock ∧ some k_ ≠ ((.slice Ao17 t417.length co17) : Value).ownBlock) (.slice Ao16 t411.length co16) x6_1) ∧ Aside0 (Kd.R (Kd.int .i64) 3 w' w.heap.size (fun k_ => some k_ ≠ ((.slice Ao16 t411.length co16) : Value).ownBlock ∧ some k_ ≠ ((.slice Ao17 t417.length co17) : Value).ownBlock) v415 t414) ∧ Aside0 (Kd.R (Kd.int .i64) 3 w' w.heap.size (fun k_ => some k_ ≠ ((.slice Ao16 t411.length co16) : Value).ownBlock ∧ some k_ ≠ (v415 : Value).ownBlock) (.slice Ao17 t417.length co17) t417) ∧ Aside0 (Below w.heap.size w w'))
  case atStart => exact ⟨(t411), (0), eq_now, H', ⟨Nat.le_refl _⟩, ⟨by (with_reducible repeat (first | apply Kd.R_alloc | apply Kd.R_drewN | apply Kd.R_drew)); exact HO410.out⟩, ⟨by (with_reducible repeat (first | apply Kd.R_alloc | apply Kd.R_drewN | apply Kd.R_drew)); exact HX.out⟩, ⟨by (with_reducible repeat (first | apply Kd.R_alloc | apply Kd.R_drewN | apply Kd.R_drew)); exact Kd.R_mono HO413.out (fun _ hk => ⟨hk.1.2, hk.2⟩)⟩, ⟨by (with_reducible repeat (first | apply Kd.R_alloc | apply Kd.R_drewN | apply Kd.R_drew)); exact Kd.R_mono HO416.out (fun _ hk => ⟨hk.1.2, hk.2⟩)⟩, ⟨by (with_reducible repeat (first | apply Kd.R_alloc | apply Kd.R_drewN | apply Kd.R_drew)); exact Kd.R_mono HO419.out (fun _ hk => ⟨hk.1.2, hk.2⟩)⟩, ⟨b_now⟩⟩
  case round =>
   clear H'
   try clear c1
   try clear p2
   try clear c3
   try clear c3b0
   try clear c3b1
   try clear c10
   try clear c11
   try clear c12
   try clear c13
   try clear c14
   obtain ⟨x6_1, x10_1, rfl, HA, HK1, HO_5, HX, HO_6, HO_7, HO_8, HB⟩ := hrel
   have hl6_1 := (Kd.R_reads' HO_6.out).1
   rw [hl6_1] at HO_6
   (try simp only [hl6_1])
   (try simp only [hl6_1] at HO_5)
   (try simp only [hl6_1] at HO_7)
   (try simp only [hl6_1] at HO_8)
   cases gk with
   | zero => exact absurd HA.out (by simp [stockadelaw05_GraphNext.l0])
   | succ k1 =>
    have H := HA.out
    clear HA
    simp only [stockadelaw05_GraphNext.l0] at H
    by_cases c18 : x10_1 < (x6_1.length : Int)
    ·rw [if_pos c18] at H
     have c18b0 : decide (x10_1 < (x6_1.length : Int)) = true := decide_eq_true c18
     clear c18
     by_cases c19 : 0 ≤ x10_1
     ·rw [if_pos c19] at H
      have c19b0 : decide (0 ≤ x10_1) = true := decide_eq_true c19
      clear c19
      obtain ⟨y421, hy421⟩ : ∃ y_ : List Int, y_ = (x6_1.set (x10_1 : Int).toNat (-7)) := ⟨_, rfl⟩
      replace H : (stockadelaw05_GraphNext.l0 k1 l0 t408 y421 t414 t417 t420 (wrap64 (x10_1 + 1))) = some r := by first | (rw [hy421]; with_reducible exact H) | (have H2_ := (Option.bind_some _ _).symm.trans H; rw [hy421]; with_reducible exact H2_) | (have H2_ := (Option.bind_some _ _).symm.trans H; with_reducible exact H2_) | with_reducible exact H | (rw [hy421]; exact H) | exact H
      have Ny421 := Aside0.mk hy421
      clear hy421
      have H' := Aside0.mk H
      clear H
      have p20 : 0 ≤ (x10_1 : Int) := of_decide_eq_true (by first | (with_reducible assumption) | assumption)
      have q20 : (x10_1 : Int) < ((x6_1.length : Int) : Int) := of_decide_eq_true (by first | (with_reducible assumption) | assumption)
      obtain ⟨go20, co20, eo20, gb20, gl20, cl20, HG20⟩ := Kd.R_form HO_6.out (by omega)
      (first | cases eo20 | (injection eo20 with ea_ en_ ec_; (first | subst ea_ | (injection ea_ with ea_; subst ea_)); subst ec_; clear en_))
      have GB20 := Aside0.mk gb20
      have GG20 := Aside0.mk HG20
      clear gb20 gl20 HG20
      obtain ⟨hx20_0, hf20_0⟩ := Kd.R_celln 0 HO_6.out (x10_1 : Int) p20 q20
      replace p20 := eq_true p20
      replace q20 := eq_true q20
      have HP21 := Kd.R_putg HO_6.out (x10_1 : Int) (-7)
      go_wp2_with (first | ((with_reducible refine gate_store (t := 3) (p := 37) rfl ?_); refine store_event (t := 3) (p := 37) (v := ?vo_w22) (w1 := (wr.setCell ⟨go20, (x10_1 : Int).toNat, none⟩ (.int .i64 (-7)))) ?hg ?ho ?hn ?hr ?_; (case ho => rfl); (case hg => rfl); (case hn => rfl); (case hr => first | (go_simp; done) | (go_simp; rfl)); intro w22 hw; have hg : wr.grownBy w22 (some go20) := (by rw [hw]; exact HP21.2); have hp_ : Kd.R (Kd.int .i64) 3 w22 w.heap.size (fun k_ => some k_ ≠ (v415 : Value).ownBlock ∧ some k_ ≠ (.slice Ao17 t417.length co17 : Value).ownBlock) (.slice (some ⟨go20, 0, none⟩) x6_1.length co16) y421 := (by rw [hw, Ny421.out]; exact HP21.1); clear HP21; replace HO_5 := Aside0.mk (Kd.R_over' (v := (.slice (some ⟨go20, 0, none⟩) x6_1.length co16)) (by (with_reducible repeat (first | apply Kd.R_alloc | apply Kd.R_drewN | apply Kd.R_drew)); exact HO_5.out) (Kd.R_typed HO_6.out) (by decide) hg); replace HX := Aside0.mk (Kd.R_over' (v := (.slice (some ⟨go20, 0, none⟩) x6_1.length co16)) (by (with_reducible repeat (first | apply Kd.R_alloc | apply Kd.R_drewN | apply Kd.R_drew)); exact HX.out) (Kd.R_typed HO_6.out) (by decide) hg); replace HO_6 := Aside0.mk (hp_); replace HO_7 := Aside0.mk (Kd.R_after (v := (.slice (some ⟨go20, 0, none⟩) x6_1.length co16)) (v1 := (.slice (some ⟨go20, 0, none⟩) x6_1.length co16)) (ok := (fun k_ => some k_ ≠ (.slice Ao17 t417.length co17 : Value).ownBlock)) (by (with_reducible repeat (first | apply Kd.R_alloc | apply Kd.R_drewN | apply Kd.R_drew)); exact Kd.R_mono HO_7.out (fun _ hk => ⟨hk.2, hk.1⟩)) hg (.inl rfl)); replace HO_8 := Aside0.mk (Kd.R_after (v := (.slice (some ⟨go20, 0, none⟩) x6_1.length co16)) (v1 := (.slice (some ⟨go20, 0, none⟩) x6_1.length co16)) (ok := (fun k_ => some k_ ≠ (v415 : Value).ownBlock)) (by (with_reducible repeat (first | apply Kd.R_alloc | apply Kd.R_drewN | apply Kd.R_drew)); exact Kd.R_mono HO_8.out (fun _ hk => ⟨hk.2, hk.1⟩)) hg (.inl rfl)); replace HB := Aside0.mk ((by rw [hw]; exact below_set (HB.out) GB20.out : Below w.heap.size w w22)); clear hg hw hp_))
      (try simp only [← hl6_1])
      go_roundg k1
      case measure => have := HK1.out; omega
      case rel => exact ⟨(y421), (wrap64 (x10_1 + 1)), eq_now, H', ⟨by have := HK1.out; omega⟩, ⟨by (try simp only [hl6_1]); (with_reducible repeat (first | apply Kd.R_alloc | apply Kd.R_drewN | apply Kd.R_drew)); exact HO_5.out⟩, ⟨by (try simp only [hl6_1]); (with_reducible repeat (first | apply Kd.R_alloc | apply Kd.R_drewN | apply Kd.R_drew)); exact HX.out⟩, ⟨by (try simp only [hl6_1]); (with_reducible repeat (first | apply Kd.R_alloc | apply Kd.R_drewN | apply Kd.R_drew)); exact HO_6.out⟩, ⟨by (try simp only [hl6_1]); (with_reducible repeat (first | apply Kd.R_alloc | apply Kd.R_drewN | apply Kd.R_drew)); exact Kd.R_mono HO_7.out (fun _ hk => ⟨hk.2, hk.1⟩)⟩, ⟨by (try simp only [hl6_1]); (with_reducible repeat (first | apply Kd.R_alloc | apply Kd.R_drewN | apply Kd.R_drew)); exact Kd.R_mono HO_8.out (fun _ hk => ⟨hk.2, hk.1⟩)⟩, ⟨b_now⟩⟩
     ·rw [if_neg c19] at H
      exact absurd H (by simp)
    ·rw [if_neg c18] at H
     have c18b0 : decide (x10_1 < (x6_1.length : Int)) = false := decide_eq_false c18
     clear c18
     by_cases c23 : t420 = true
     ·subst c23
      replace H := sh_t H
      replace H := Option.bind_eq_some_iff.mp H; obtain ⟨t422, A240, H⟩ := H; try dsimp only at H
      have A24 := Aside0.mk A240
      clear A240
      by_cases c25 : t422 = true
      ·subst c25
       replace H := sh_t H
       replace H := Option.bind_eq_some_iff.mp H; obtain ⟨t423, A260, H⟩ := H; try dsimp only at H
       have A26 := Aside0.mk A260
       clear A260
       by_cases c27 : t423 = true
       ·subst c27
        replace H := sh_t H
        replace H := Option.bind_eq_some_iff.mp H; obtain ⟨t424, A280, H⟩ := H; try dsimp only at H
        have A28 := Aside0.mk A280
        clear A280
        obtain rfl := Option.some.inj H
        obtain ⟨Ao29, co29, eo29⟩ := Kd.R_slice HO_7.out
        subst eo29
        go_wp2_with (first | (go_at_call 14; (with_reducible refine (stockadelaw05_ints.calls k1 _ _ t414 _ _ t417 true _ ?side1 ?side2 ?side3 ?side4 A24.out).mono ?_); (case side1 => repeat (first | exact (Kd.R_reads' HO_7.out).2.2 | (with_reducible refine Kd.C_alloc ?_ _) | (with_reducible refine Kd.C_drewN ?_ _) | (with_reducible refine Kd.C_drew ?_))); (case side2 => exact (Kd.R_reads' HO_7.out).2.1); (case side3 => repeat (first | exact (Kd.R_reads' HO_8.out).2.2 | (with_reducible refine Kd.C_alloc ?_ _) | (with_reducible refine Kd.C_drewN ?_ _) | (with_reducible refine Kd.C_drew ?_))); (case side4 => exact (Kd.R_reads' HO_8.out).2.1); rintro e w' ⟨rfl, ⟨nd, rfl⟩⟩) | (go_at_call 15; (with_reducible refine (kept3 k1 _ _ t408 _ _ l0 true _ (own_is A6.out) ?side1 ?side2 ?side3 ?side4 A26.out).mono ?_); (case side1 => repeat (first | exact (Kd.R_reads' HX.out).2.2 | (with_reducible refine Kd.C_alloc ?_ _) | (with_reducible refine Kd.C_drewN ?_ _) | (with_reducible refine Kd.C_drew ?_))); (case side2 => exact (Kd.R_reads' HX.out).2.1); (case side3 => repeat (first | exact (Kd.C_below HR0.out b_now) | (with_reducible refine Kd.C_alloc ?_ _) | (with_reducible refine Kd.C_drewN ?_ _) | (with_reducible refine Kd.C_drew ?_))); (case side4 => exact HC0.out); rintro e w' ⟨rfl, ⟨nd, rfl⟩⟩) | (go_at_call 10; (with_reducible refine (stockadelaw05_wakes.calls k1  t424 _ ?side1 (by first | rfl | exact HRT.out) A28.out).mono ?_); (case side1 => repeat (first | exact (Kd.C_below HRG0.out b_now) | (with_reducible refine Kd.C_alloc ?_ _) | (with_reducible refine Kd.C_drewN ?_ _) | (with_reducible refine Kd.C_drew ?_))); rintro e w30 ⟨rfl, hb⟩; replace HO_5 := Aside0.mk (Kd.R_below (by (with_reducible repeat (first | apply Kd.R_alloc | apply Kd.R_drewN | apply Kd.R_drew)); exact HO_5.out) hb); replace HX := Aside0.mk (Kd.R_below (by (with_reducible repeat (first | apply Kd.R_alloc | apply Kd.R_drewN | apply Kd.R_drew)); exact HX.out) hb); replace HO_6 := Aside0.mk (Kd.R_below (by (with_reducible repeat (first | apply Kd.R_alloc | apply Kd.R_drewN | apply Kd.R_drew)); exact HO_6.out) hb); replace HO_7 := Aside0.mk (Kd.R_below (by (with_reducible repeat (first | apply Kd.R_alloc | apply Kd.R_drewN | apply Kd.R_drew)); exact HO_7.out) hb); replace HO_8 := Aside0.mk (Kd.R_below (by (with_reducible repeat (first | apply Kd.R_alloc | apply Kd.R_drewN | apply Kd.R_drew)); exact HO_8.out) hb); replace HB := sh_b (w := w) hb; (try clear hb); (try clear hb2); (try clear hk); (try clear hi)))
        go_ret
        exact ⟨ret_now, b_now⟩
       ·replace c27 := Bool.eq_false_iff.mpr c27
        subst c27
        replace H := sh_f H
        obtain rfl := Option.some.inj H
        exact absurd HRT.out (by simp)
      ·replace c25 := Bool.eq_false_iff.mpr c25
       subst c25
       replace H := sh_f H
       obtain rfl := Option.some.inj H
       exact absurd HRT.out (by simp)
     ·replace c23 := Bool.eq_false_iff.mpr c23
      subst c23
      replace H := sh_f H
      obtain rfl := Option.some.inj H
      exact absurd HRT.out (by simp)

end Go.Proofs.YtkjcjlegokdpdaaDoor.P
