/- Made by this session's driver over the kit's printer: for each Go function a Lean function with the same answers, and a proof that the Go call comes to these answers; no conditions but the ones each theorem names. -/
import Derived.Test.YtkjcjlegokdpdaaDoorPx0
import Derived.Test.YtkjcjlegokdpdaaDoorPx7
import Derived.Test.YtkjcjlegokdpdaaDoorPx10
import Derived.Test.YtkjcjlegokdpdaaDoorPx11
import Derived.Test.YtkjcjlegokdpdaaDoorPxXXOr
namespace Go.Proofs.YtkjcjlegokdpdaaDoor.P
open Go.RowKit Go.Proofs.YtkjcjlegokdpdaaDoorW.PrintWords Go.Proofs.YtkjcjlegokdpdaaDoorW.PrintLast Go.Proofs.YtkjcjlegokdpdaaDoorW.PrintMore
attribute [local go_sem] max2_int min2_int max_two min_two max_three min_three max_four min_four   -- for this text's walks alone
set_option linter.unusedVariables false
set_option linter.unusedSimpArgs false

/-! ### stockadelaw05_GraphBlind: function 5 -/
mutual
def stockadelaw05_GraphBlind.l0 : Nat → List (S44) → Int → List (S44) → Int → Int → Int → Int → Int → Int → Option (Bool)
 | 0, _, _, _, _, _, _, _, _, _ => none
 | k + 1, x0, x1, x7, x8, x509000, x509001, x509002, x509003, x509004 => if x8 < (x7.length : Int) then (if 0 ≤ x8 then (if ((rd_T44 x7 x8).f0) = 24 then (if (wrap64 (x8 + 1)) < (x7.length : Int) then ((graph_Next.f k x7 x8).bind fun t514 => (stockadelaw05_GraphBlind.j1 k x0 x1 x7 x8 ((rd_T44 x7 x8).f0) (decide ((t514.length : Int) > 0)) x509000 x509001 x509002 x509003 x509004)) else (stockadelaw05_GraphBlind.j1 k x0 x1 x7 x8 ((rd_T44 x7 x8).f0) false x509000 x509001 x509002 x509003 x509004)) else (stockadelaw05_GraphBlind.j1 k x0 x1 x7 x8 ((rd_T44 x7 x8).f0) false x509000 x509001 x509002 x509003 x509004)) else (none)) else ((graph_Order.f x0).bind fun bt525 => ((graph_Order.f x7).bind fun bt529 => (if bt525.2 = bt529.2 then ((stockadelaw05_ints.f k bt525.1 bt529.1).bind fun t533 => (if t533 = true then ((stockadelaw05_wakes.f k).bind fun t534 => (some t534)) else (some false))) else (some false))))
def stockadelaw05_GraphBlind.j1 : Nat → List (S44) → Int → List (S44) → Int → Int → Bool → Int → Int → Int → Int → Int → Option (Bool)
 | 0, _, _, _, _, _, _, _, _, _, _, _ => none
 | k + 1, x0, x1, x7, x8, x9, x46, x509000, x509001, x509002, x509003, x509004 => if x46 = true then (if 0 ≤ (wrap64 (x8 + 1)) then (if (wrap64 (x8 + 1)) < (x7.length : Int) then (stockadelaw05_GraphBlind.l0 k x0 x1 (x7.set ((wrap64 (x8 + 1)) : Int).toNat (⟨x509000, x509001, x509002, x509003, x509004⟩ : S44)) (wrap64 ((wrap64 (x8 + 1)) + 1)) x509000 x509001 x509002 x509003 x509004) else (none)) else (none)) else (if x9 = 183 then (stockadelaw05_GraphBlind.j2 k x0 x1 x7 x8 x9 true x509000 x509001 x509002 x509003 x509004) else (stockadelaw05_GraphBlind.j2 k x0 x1 x7 x8 x9 (x9 == 21) x509000 x509001 x509002 x509003 x509004))
def stockadelaw05_GraphBlind.j2 : Nat → List (S44) → Int → List (S44) → Int → Int → Bool → Int → Int → Int → Int → Int → Option (Bool)
 | 0, _, _, _, _, _, _, _, _, _, _, _ => none
 | k + 1, x0, x1, x7, x8, x9, x58, x509000, x509001, x509002, x509003, x509004 => if x58 = true then (if 0 ≤ x8 then (if x8 < (x7.length : Int) then ((some (x7.set (x8 : Int).toNat (⟨(rd_T44 x7 x8).f0, Int.tmod x1 10, (rd_T44 x7 x8).f2, (rd_T44 x7 x8).f3, (rd_T44 x7 x8).f4⟩ : S44) : List (S44))).bind fun y518 => (if x8 < (x0.length : Int) then (if ((rd_T44 x0 x8).f1) > 10 then (stockadelaw05_GraphBlind.l0 k x0 x1 (y518.set (x8 : Int).toNat (⟨(rd_T44 x0 x8).f0, (rd_T44 x0 x8).f1, (rd_T44 x0 x8).f2, (rd_T44 x0 x8).f3, (rd_T44 x0 x8).f4⟩ : S44)) (wrap64 (x8 + 1)) x509000 x509001 x509002 x509003 x509004) else (if ((rd_T44 x0 x8).f1) = 10 then (if x9 = 183 then (stockadelaw05_GraphBlind.l0 k x0 x1 (y518.set (x8 : Int).toNat (⟨(rd_T44 x0 x8).f0, (rd_T44 x0 x8).f1, (rd_T44 x0 x8).f2, (rd_T44 x0 x8).f3, (rd_T44 x0 x8).f4⟩ : S44)) (wrap64 (x8 + 1)) x509000 x509001 x509002 x509003 x509004) else (stockadelaw05_GraphBlind.l0 k x0 x1 y518 (wrap64 (x8 + 1)) x509000 x509001 x509002 x509003 x509004)) else (stockadelaw05_GraphBlind.l0 k x0 x1 y518 (wrap64 (x8 + 1)) x509000 x509001 x509002 x509003 x509004))) else (none))) else (none)) else (none)) else (stockadelaw05_GraphBlind.l0 k x0 x1 x7 (wrap64 (x8 + 1)) x509000 x509001 x509002 x509003 x509004)
end
def stockadelaw05_GraphBlind.f (k : Nat) (l0 : List (S44)) (a1 : Int) (a2_0 : Int) (a2_1 : Int) (a2_2 : Int) (a2_3 : Int) (a2_4 : Int) : Option (Bool) := if (l0.length : Int) > 130 then ((stockadelaw05_wakes.f k).bind fun t509 => (some t509)) else ((stockadelaw05_own.f l0).bind fun t510 => (stockadelaw05_GraphBlind.l0 k l0 a1 t510 0 a2_0 a2_1 a2_2 a2_3 a2_4))
theorem stockadelaw05_GraphBlind.mono_l : ∀ k, (∀ y0 y1 y2 y3 y4 y5 y6 y7 y8, LeO (stockadelaw05_GraphBlind.l0 k y0 y1 y2 y3 y4 y5 y6 y7 y8) (stockadelaw05_GraphBlind.l0 (k + 1) y0 y1 y2 y3 y4 y5 y6 y7 y8)) ∧ (∀ y0 y1 y2 y3 y4 y5 y6 y7 y8 y9 y10, LeO (stockadelaw05_GraphBlind.j1 k y0 y1 y2 y3 y4 y5 y6 y7 y8 y9 y10) (stockadelaw05_GraphBlind.j1 (k + 1) y0 y1 y2 y3 y4 y5 y6 y7 y8 y9 y10)) ∧ (∀ y0 y1 y2 y3 y4 y5 y6 y7 y8 y9 y10, LeO (stockadelaw05_GraphBlind.j2 k y0 y1 y2 y3 y4 y5 y6 y7 y8 y9 y10) (stockadelaw05_GraphBlind.j2 (k + 1) y0 y1 y2 y3 y4 y5 y6 y7 y8 y9 y10))
 | 0 => ⟨fun _ _ _ _ _ _ _ _ _ r h => by simp [stockadelaw05_GraphBlind.l0] at h, fun _ _ _ _ _ _ _ _ _ _ _ r h => by simp [stockadelaw05_GraphBlind.j1] at h, fun _ _ _ _ _ _ _ _ _ _ _ r h => by simp [stockadelaw05_GraphBlind.j2] at h⟩
 | k + 1 => by
  obtain ⟨ih0, ih1, ih2⟩ := stockadelaw05_GraphBlind.mono_l k
  refine ⟨?_, ?_, ?_⟩
  ·intro y0 y1 y2 y3 y4 y5 y6 y7 y8
   unfold stockadelaw05_GraphBlind.l0
   repeat' first
   | (with_reducible exact ih0 _ _ _ _ _ _ _ _ _)
   | (with_reducible exact ih1 _ _ _ _ _ _ _ _ _ _ _)
   | (with_reducible exact ih2 _ _ _ _ _ _ _ _ _ _ _)
   | (with_reducible exact graph_Next.mono _ _ _)
   | (with_reducible exact stockadelaw05_ints.mono _ _ _)
   | (with_reducible exact stockadelaw05_wakes.mono _)
   | (with_reducible exact LeO.refl _)
   | (with_reducible exact LeO.none _)
   | (with_reducible refine LeO.ite ?_ ?_)
   | (with_reducible refine LeO.bind ?_ (fun _ => ?_))
   | exact ih0 _ _ _ _ _ _ _ _ _
   | exact ih1 _ _ _ _ _ _ _ _ _ _ _
   | exact ih2 _ _ _ _ _ _ _ _ _ _ _
   | exact graph_Next.mono _ _ _
   | exact stockadelaw05_ints.mono _ _ _
   | exact stockadelaw05_wakes.mono _
   | exact LeO.none _
   | refine LeO.ite ?_ ?_
   | refine LeO.bind ?_ (fun _ => ?_)
  ·intro y0 y1 y2 y3 y4 y5 y6 y7 y8 y9 y10
   unfold stockadelaw05_GraphBlind.j1
   repeat' first
   | (with_reducible exact ih0 _ _ _ _ _ _ _ _ _)
   | (with_reducible exact ih1 _ _ _ _ _ _ _ _ _ _ _)
   | (with_reducible exact ih2 _ _ _ _ _ _ _ _ _ _ _)
   | (with_reducible exact graph_Next.mono _ _ _)
   | (with_reducible exact stockadelaw05_ints.mono _ _ _)
   | (with_reducible exact stockadelaw05_wakes.mono _)
   | (with_reducible exact LeO.refl _)
   | (with_reducible exact LeO.none _)
   | (with_reducible refine LeO.ite ?_ ?_)
   | (with_reducible refine LeO.bind ?_ (fun _ => ?_))
   | exact ih0 _ _ _ _ _ _ _ _ _
   | exact ih1 _ _ _ _ _ _ _ _ _ _ _
   | exact ih2 _ _ _ _ _ _ _ _ _ _ _
   | exact graph_Next.mono _ _ _
   | exact stockadelaw05_ints.mono _ _ _
   | exact stockadelaw05_wakes.mono _
   | exact LeO.none _
   | refine LeO.ite ?_ ?_
   | refine LeO.bind ?_ (fun _ => ?_)
  ·intro y0 y1 y2 y3 y4 y5 y6 y7 y8 y9 y10
   unfold stockadelaw05_GraphBlind.j2
   repeat' first
   | (with_reducible exact ih0 _ _ _ _ _ _ _ _ _)
   | (with_reducible exact ih1 _ _ _ _ _ _ _ _ _ _ _)
   | (with_reducible exact ih2 _ _ _ _ _ _ _ _ _ _ _)
   | (with_reducible exact graph_Next.mono _ _ _)
   | (with_reducible exact stockadelaw05_ints.mono _ _ _)
   | (with_reducible exact stockadelaw05_wakes.mono _)
   | (with_reducible exact LeO.refl _)
   | (with_reducible exact LeO.none _)
   | (with_reducible refine LeO.ite ?_ ?_)
   | (with_reducible refine LeO.bind ?_ (fun _ => ?_))
   | exact ih0 _ _ _ _ _ _ _ _ _
   | exact ih1 _ _ _ _ _ _ _ _ _ _ _
   | exact ih2 _ _ _ _ _ _ _ _ _ _ _
   | exact graph_Next.mono _ _ _
   | exact stockadelaw05_ints.mono _ _ _
   | exact stockadelaw05_wakes.mono _
   | exact LeO.none _
   | refine LeO.ite ?_ ?_
   | refine LeO.bind ?_ (fun _ => ?_)
theorem stockadelaw05_GraphBlind.mono : ∀ a0 a1 a2 a3 a4 a5 a6 k, LeO (stockadelaw05_GraphBlind.f k a0 a1 a2 a3 a4 a5 a6) (stockadelaw05_GraphBlind.f (k + 1) a0 a1 a2 a3 a4 a5 a6) := by
 intro a0 a1 a2 a3 a4 a5 a6 k
 obtain ⟨ih0, ih1, ih2⟩ := stockadelaw05_GraphBlind.mono_l k
 unfold stockadelaw05_GraphBlind.f
 repeat' first
   | (with_reducible exact ih0 _ _ _ _ _ _ _ _ _)
   | (with_reducible exact ih1 _ _ _ _ _ _ _ _ _ _ _)
   | (with_reducible exact ih2 _ _ _ _ _ _ _ _ _ _ _)
   | (with_reducible exact graph_Next.mono _ _ _)
   | (with_reducible exact stockadelaw05_ints.mono _ _ _)
   | (with_reducible exact stockadelaw05_wakes.mono _)
   | (with_reducible exact LeO.refl _)
   | (with_reducible exact LeO.none _)
   | (with_reducible refine LeO.ite ?_ ?_)
   | (with_reducible refine LeO.bind ?_ (fun _ => ?_))
   | exact ih0 _ _ _ _ _ _ _ _ _
   | exact ih1 _ _ _ _ _ _ _ _ _ _ _
   | exact ih2 _ _ _ _ _ _ _ _ _ _ _
   | exact graph_Next.mono _ _ _
   | exact stockadelaw05_ints.mono _ _ _
   | exact stockadelaw05_wakes.mono _
   | exact LeO.none _
   | refine LeO.ite ?_ ?_
   | refine LeO.bind ?_ (fun _ => ?_)
set_option maxHeartbeats 8000000 in
set_option maxRecDepth 100000 in
theorem stockadelaw05_GraphBlind.calls (k : Nat) (A0 : Option Addr) (c0 : Nat) (l0 : List (S44)) (a1 : Int) (a2_0 : Int) (a2_1 : Int) (a2_2 : Int) (a2_3 : Int) (a2_4 : Int) (r : Bool) (w : World) (hr0 : Kd.C k44 w A0 l0.length l0) (hc0 : l0.length ≤ c0) (hrG0 : Kd.C (Kd.int .i64) w (some ⟨0, 0, none⟩) gl0.length gl0) (hr_ : r = true) (h : stockadelaw05_GraphBlind.f k l0 a1 a2_0 a2_1 a2_2 a2_3 a2_4 = some r) :
  Calls Tryd.prog 5 #[.slice A0 l0.length c0, .int .u8 a1, .agg #[.int .u8 a2_0, .int .u8 a2_1, .int .u8 a2_2, .int .i16 a2_3, .int .i32 a2_4]] w fun e w' => e = .returned (.bool r) ∧ Below w.heap.size w w' := by
 have hu44 := Tryd.underlying44
 have HR0 := Aside0.mk hr0
 have HC0 := Aside0.mk hc0
 clear hr0 hc0
 have HRG0 := Aside0.mk hrG0
 clear hrG0
 have HRT := Aside0.mk hr_
 clear hr_
 have HB := Aside0.mk (Below.refl w.heap.size w)
 have H : (if (l0.length : Int) > 130 then ((stockadelaw05_wakes.f k).bind fun t509 => (some t509)) else ((stockadelaw05_own.f l0).bind fun t510 => (stockadelaw05_GraphBlind.l0 k l0 a1 t510 0 a2_0 a2_1 a2_2 a2_3 a2_4))) = some r := h
 clear h
 by_cases c4 : (l0.length : Int) > 130
 ·rw [if_pos c4] at H
  have c4b0 : decide (130 < (l0.length : Int)) = true := decide_eq_true c4
  have c4b1 : decide (130 < l0.length) = true := decide_eq_true (by omega)
  clear c4
  replace H := Option.bind_eq_some_iff.mp H; obtain ⟨t509, A50, H⟩ := H; try dsimp only at H
  have A5 := Aside0.mk A50
  clear A50
  obtain rfl := Option.some.inj H
  go_enter Tryd.func5, Tryd.ntmps5
  go_wp2_with (first | ((with_reducible refine gate_dst (N := 5) rfl ?_); (try (refine gate_guard (by rfl) ?_; dsimp only)); refine sh_box 5 #[.int .u8 a2_0, .int .u8 a2_1, .int .u8 a2_2, .int .i16 a2_3, .int .i32 a2_4] 44 ?_; intro gb508 hg w6 hbox hb; have GE508 := sh_z (w := w) hg; replace HB := sh_b (w := w) hb; have BK508 := Aside0.mk (hbox); clear hb hbox hg) | ((with_reducible refine gate_callee (f := 10) rfl ?_); refine sh_call (some 17) Tryd.func10 #[] ?_; (with_reducible refine (stockadelaw05_wakes.calls k  t509 _ ?side1 (by first | rfl | exact HRT.out) A5.out).mono ?_); (case side1 => repeat (first | exact (Kd.C_below HRG0.out HB.out) | (with_reducible refine Kd.C_alloc ?_ _) | (with_reducible refine Kd.C_drewN ?_ _) | (with_reducible refine Kd.C_drew ?_))); rintro e w7 ⟨rfl, hb⟩; refine ⟨_, rfl, ?_⟩; replace BK508 := sh_k BK508 hb; replace HB := sh_b (w := w) hb; (try clear hb); (try clear hb2); (try clear hk); (try clear hi)))
  go_ret
  exact ⟨ret_now, b_now⟩
 ·rw [if_neg c4] at H
  have c4b0 : decide (130 < (l0.length : Int)) = false := decide_eq_false c4
  have c4b1 : decide (130 < l0.length) = false := decide_eq_false (by omega)
  clear c4
  replace H := Option.bind_eq_some_iff.mp H; obtain ⟨t510, A80, H⟩ := H; try dsimp only at H
  have A8 := Aside0.mk A80
  clear A80
  have H' := Aside0.mk H
  clear H
  go_enter Tryd.func5, Tryd.ntmps5
  go_wp2_with (first | ((with_reducible refine gate_dst (N := 5) rfl ?_); (try (refine gate_guard (by rfl) ?_; dsimp only)); refine sh_box 5 #[.int .u8 a2_0, .int .u8 a2_1, .int .u8 a2_2, .int .i16 a2_3, .int .i32 a2_4] 44 ?_; intro gb508 hg w9 hbox hb; have GE508 := sh_z (w := w) hg; replace HB := sh_b (w := w) hb; have BK508 := Aside0.mk (hbox); clear hb hbox hg) | ((with_reducible refine gate_callee (f := 11) rfl ?_); refine sh_call (some 19) Tryd.func11 #[.slice A0 l0.length c0] ?_; (with_reducible refine (stockadelaw05_own.calls _ _ l0 t510 _ ?side1 ?side2 A8.out).mono ?_); (case side1 => repeat (first | exact (Kd.C_below HR0.out HB.out) | (with_reducible refine Kd.C_alloc ?_ _) | (with_reducible refine Kd.C_drewN ?_ _) | (with_reducible refine Kd.C_drew ?_))); (case side2 => exact HC0.out); rintro e w10 ⟨v511, rfl, ho0, hb⟩; refine ⟨_, rfl, ?_⟩; have HO512 := Aside0.mk (Kd.R_lower (Kd.R_newB ho0 (g := gb508) (o := .cells #[.int .u8 a2_0, .int .u8 a2_1, .int .u8 a2_2, .int .i16 a2_3, .int .i32 a2_4] 44 (0, 0)) bk_now) (below_size b_now)); replace BK508 := sh_k BK508 hb; replace HB := sh_b (w := w) hb; (try clear hb); (try clear hb2); (try clear hk); (try clear hi); (try clear ho0)))
  go_loopg [8] k (fun kq v8 w' => ∃ (x7_1 : List (S44)) (x8_1 : Int) (x509000_1 : Int) (x509001_1 : Int) (x509002_1 : Int) (x509003_1 : Int) (x509004_1 : Int), v8 = .int .i64 x8_1 ∧ Aside0 (stockadelaw05_GraphBlind.l0 kq l0 a1 x7_1 x8_1 x509000_1 x509001_1 x509002_1 x509003_1 x509004_1 = some r) ∧ Aside0 (kq ≤ k) ∧ Aside0 (Kd.R k44 44 w' w.heap.size (fun k_ => k_ ≠ gb508) v511 x7_1) ∧ Aside0 (w'.heap[gb508]? = some (.cells #[.int .u8 x509000_1, .int .u8 x509001_1, .int .u8 x509002_1, .int .i16 x509003_1, .int .i32 x509004_1] 44 (0, 0))) ∧ Aside0 (Below w.heap.size w w'))
  case atStart => exact ⟨(t510), (0), (a2_0), (a2_1), (a2_2), (a2_3), (a2_4), eq_now, H', ⟨Nat.le_refl _⟩, ⟨by (with_reducible repeat (first | apply Kd.R_alloc | apply Kd.R_drewN | apply Kd.R_drew)); exact Kd.R_mono HO512.out (fun _ hk => hk.2)⟩, ⟨bk_now⟩, ⟨b_now⟩⟩
  case round =>
   clear H'
   try clear c1
   try clear p2
   try clear c4
   try clear c4b0
   try clear c4b1
   try clear c5
   try clear c10
   obtain ⟨x7_1, x8_1, x509000_1, x509001_1, x509002_1, x509003_1, x509004_1, rfl, HA, HK1, HO_7, BK508, HB⟩ := hrel
   cases gk with
   | zero => exact absurd HA.out (by simp [stockadelaw05_GraphBlind.l0])
   | succ k1 =>
    have H := HA.out
    clear HA
    simp only [stockadelaw05_GraphBlind.l0] at H
    by_cases c11 : x8_1 < (x7_1.length : Int)
    ·rw [if_pos c11] at H
     have c11b0 : decide (x8_1 < (x7_1.length : Int)) = true := decide_eq_true c11
     clear c11
     by_cases c12 : 0 ≤ x8_1
     ·rw [if_pos c12] at H
      have c12b0 : decide (0 ≤ x8_1) = true := decide_eq_true c12
      clear c12
      have HC13 := Aside0.mk H
      clear H
      obtain ⟨Ao14, co14, eo14⟩ := Kd.R_slice HO_7.out
      subst eo14
      have p513 : 0 ≤ (x8_1 : Int) := of_decide_eq_true (by first | (with_reducible assumption) | assumption)
      have q513 : x8_1 < (x7_1.length : Int) := of_decide_eq_true (by first | (with_reducible assumption) | assumption)
      obtain ⟨ad513, e513, hx513_0, hx513_1, hx513_2, hx513_3, hx513_4⟩ := at_T44 (Kd.R_reads' HO_7.out).2.2 x8_1 p513 q513
      cases e513
      replace p513 := eq_true p513
      replace q513 := eq_true q513
      go_upto_region 8 with (fail)
      go_cut [46] (fun v46 wc => ∃ (kq : Nat) (x46_12 : Bool), v46 = .bool x46_12 ∧ Aside0 (stockadelaw05_GraphBlind.j1 kq l0 a1 x7_1 x8_1 ((rd_T44 x7_1 x8_1).f0) x46_12 x509000_1 x509001_1 x509002_1 x509003_1 x509004_1 = some r) ∧ Aside0 (kq ≤ k1) ∧ Aside0 (Kd.R k44 44 wc w.heap.size (fun k_ => k_ ≠ gb508) (.slice (some ad513) x7_1.length co14) x7_1) ∧ Aside0 (wc.heap[gb508]? = some (.cells #[.int .u8 x509000_1, .int .u8 x509001_1, .int .u8 x509002_1, .int .i16 x509003_1, .int .i32 x509004_1] 44 (0, 0))) ∧ Aside0 (Below w.heap.size w wc))
      case first =>
       have H := HC13.out
       clear HC13
       by_cases c15 : ((rd_T44 x7_1 x8_1).f0) = 24
       ·rw [if_pos c15] at H
        have c15b0 : (((rd_T44 x7_1 x8_1).f0) == 24) = true := beq_iff_eq.mpr c15
        have c15b1 : (((rd_T44 x7_1 x8_1).f0) != 24) = false := bne_eq_false_iff_eq.mpr c15
        clear c15
        (first | rw [c15b0] | (simp only [i64_w, i32_w]; rw [c15b0]) | skip)
        by_cases c16 : (wrap64 (x8_1 + 1)) < (x7_1.length : Int)
        ·rw [if_pos c16] at H
         have c16b0 : decide ((wrap64 (x8_1 + 1)) < (x7_1.length : Int)) = true := decide_eq_true c16
         clear c16
         replace H := Option.bind_eq_some_iff.mp H; obtain ⟨t514, A170, H⟩ := H; try dsimp only at H
         have A17 := Aside0.mk A170
         clear A170
         have H' := Aside0.mk H
         clear H
         go_wp2_with (first | (go_at_call 12; (with_reducible refine (graph_Next.calls k1 _ _ x7_1 x8_1 t514 _ ?side1 ?side2 ?side3 A17.out).mono ?_); (case side1 => repeat (first | exact (Kd.R_reads' HO_7.out).2.2 | (with_reducible refine Kd.C_alloc ?_ _) | (with_reducible refine Kd.C_drewN ?_ _) | (with_reducible refine Kd.C_drew ?_))); (case side2 => exact (Kd.R_reads' HO_7.out).2.1); (case side3 => repeat (first | exact (Kd.C_below HRG0.out HB.out) | (with_reducible refine Kd.C_alloc ?_ _) | (with_reducible refine Kd.C_drewN ?_ _) | (with_reducible refine Kd.C_drew ?_))); rintro e w18 ⟨v515, rfl, ho0, hb⟩; have HO516 := Aside0.mk (Kd.R_lower ho0 (below_size b_now)); replace HO_7 := Aside0.mk (Kd.R_below (by (with_reducible repeat (first | apply Kd.R_alloc | apply Kd.R_drewN | apply Kd.R_drew)); exact HO_7.out) hb); replace BK508 := sh_k BK508 hb; replace HB := sh_b (w := w) hb; (try clear hb); (try clear hb2); (try clear hk); (try clear hi); (try clear ho0); obtain ⟨Ao19, co19, eo19⟩ := Kd.R_slice HO516.out; subst eo19))
         go_meet
         case rel => exact ⟨_, (decide ((t514.length : Int) > 0)), eq_now, H', ⟨by have := HK1.out; first | omega | exact Nat.le_refl _⟩, ⟨by (with_reducible repeat (first | apply Kd.R_alloc | apply Kd.R_drewN | apply Kd.R_drew)); exact HO_7.out⟩, ⟨bk_now⟩, ⟨b_now⟩⟩
        ·rw [if_neg c16] at H
         have c16b0 : decide ((wrap64 (x8_1 + 1)) < (x7_1.length : Int)) = false := decide_eq_false c16
         clear c16
         have H' := Aside0.mk H
         clear H
         go_wp2
         go_meet
         case rel => exact ⟨_, (false), eq_now, H', ⟨by have := HK1.out; first | omega | exact Nat.le_refl _⟩, ⟨by (with_reducible repeat (first | apply Kd.R_alloc | apply Kd.R_drewN | apply Kd.R_drew)); exact HO_7.out⟩, ⟨bk_now⟩, ⟨b_now⟩⟩
       ·rw [if_neg c15] at H
        have c15b0 : (((rd_T44 x7_1 x8_1).f0) == 24) = false := beq_eq_false_iff_ne.mpr c15
        have c15b1 : (((rd_T44 x7_1 x8_1).f0) != 24) = true := bne_iff_ne.mpr c15
        (first | rw [c15b0] | (simp only [i64_w, i32_w]; rw [c15b0]) | skip)
        have H' := Aside0.mk H
        clear H
        go_wp2
        go_meet
        case rel => exact ⟨_, (false), eq_now, H', ⟨by have := HK1.out; first | omega | exact Nat.le_refl _⟩, ⟨by (with_reducible repeat (first | apply Kd.R_alloc | apply Kd.R_drewN | apply Kd.R_drew)); exact HO_7.out⟩, ⟨bk_now⟩, ⟨b_now⟩⟩
      case rest =>
       clear HC13
       try clear c1
       try clear p2
       try clear c4
       try clear c4b0
       try clear c4b1
       try clear c5
       try clear p5
       try clear q5
       try clear hx5
       try clear p6
       try clear c10
       try clear c11
       try clear c11b0
       try clear c12
       try clear c12b0
       try clear c15
       try clear c15b0
       try clear c15b1
       try clear c16
       try clear c16b0
       try clear hx513_0
       try clear hx513_1
       try clear hx513_2
       try clear hx513_3
       try clear hx513_4
       try clear p2
       try clear p513
       try clear q513
       obtain ⟨kq, x46_12, rfl, HA, HJ12, HO_7, BK508, HB⟩ := hcut
       cases kq with
       | zero => exact absurd HA.out (by simp [stockadelaw05_GraphBlind.j1])
       | succ kj12 =>
        have H := HA.out
        clear HA
        simp only [stockadelaw05_GraphBlind.j1] at H
        by_cases c20 : x46_12 = true
        ·subst c20
         replace H := sh_t H
         obtain ⟨ji21, hji21⟩ : ∃ j_ : Int, (wrap64 (x8_1 + 1)) = j_ := ⟨_, rfl⟩
         replace H : (if 0 ≤ (ji21) then (if (ji21) < (x7_1.length : Int) then (stockadelaw05_GraphBlind.l0 kj12 l0 a1 (x7_1.set ((ji21) : Int).toNat (⟨x509000_1, x509001_1, x509002_1, x509003_1, x509004_1⟩ : S44)) (wrap64 ((ji21) + 1)) x509000_1 x509001_1 x509002_1 x509003_1 x509004_1) else (none)) else (none)) = some r := by first | (rw [hji21] at H; exact H) | (simp only [hji21] at H ⊢; exact H)
         have hji21w : (IntKind.i64.wrap (x8_1 + 1)) = ji21 := (i64_w _).trans hji21
         by_cases c22 : 0 ≤ (ji21)
         ·rw [if_pos c22] at H
          have c22b0 : decide (0 ≤ (ji21)) = true := decide_eq_true c22
          clear c22
          by_cases c23 : (ji21) < (x7_1.length : Int)
          ·rw [if_pos c23] at H
           have c23b0 : decide ((ji21) < (x7_1.length : Int)) = true := decide_eq_true c23
           clear c23
           obtain ⟨y517, hy517⟩ : ∃ y_ : List (S44), y_ = (x7_1.set ((ji21) : Int).toNat (⟨x509000_1, x509001_1, x509002_1, x509003_1, x509004_1⟩ : S44)) := ⟨_, rfl⟩
           replace H : (stockadelaw05_GraphBlind.l0 kj12 l0 a1 y517 (wrap64 ((ji21) + 1)) x509000_1 x509001_1 x509002_1 x509003_1 x509004_1) = some r := by first | (rw [hy517]; with_reducible exact H) | (have H2_ := (Option.bind_some _ _).symm.trans H; rw [hy517]; with_reducible exact H2_) | (have H2_ := (Option.bind_some _ _).symm.trans H; with_reducible exact H2_) | with_reducible exact H | (rw [hy517]; exact H) | exact H
           have Ny517 := Aside0.mk hy517
           clear hy517
           have H' := Aside0.mk H
           clear H
           have hcz25 := blk_all5 BK508.out
           have p24 : 0 ≤ ((ji21) : Int) := of_decide_eq_true (by first | (with_reducible assumption) | assumption)
           have q24 : ((ji21) : Int) < ((x7_1.length : Int) : Int) := of_decide_eq_true (by first | (with_reducible assumption) | assumption)
           obtain ⟨go24, co24, eo24, gb24, gl24, cl24, HG24⟩ := Kd.R_form HO_7.out (by omega)
           (first | cases eo24 | (injection eo24 with ea_ en_ ec_; (first | subst ea_ | (injection ea_ with ea_; subst ea_)); subst ec_; clear en_))
           have GB24 := Aside0.mk gb24
           have GG24 := Aside0.mk HG24
           clear gb24 gl24 HG24
           (first | simp only [add_plain] at hx513_0 | skip)
           (first | simp only [add_plain] at hx513_1 | skip)
           (first | simp only [add_plain] at hx513_2 | skip)
           (first | simp only [add_plain] at hx513_3 | skip)
           (first | simp only [add_plain] at hx513_4 | skip)
           obtain ⟨ce24, hcl24, hM24, hcc24, hfr24⟩ := Kd.R_elem HO_7.out z44 ((ji21) : Int) p24 q24
           obtain rfl := k44_openM hM24
           have hx24_0 : wc.cell? ⟨go24, ((ji21) : Int).toNat * 5, none⟩ = some (.int .u8 ((rd_T44 x7_1 (ji21)).f0)) := hcc24 0 _ rfl
           have hx24_1 : wc.cell? ⟨go24, ((ji21) : Int).toNat * 5 + 1, none⟩ = some (.int .u8 ((rd_T44 x7_1 (ji21)).f1)) := hcc24 1 _ rfl
           have hx24_2 : wc.cell? ⟨go24, ((ji21) : Int).toNat * 5 + 2, none⟩ = some (.int .u8 ((rd_T44 x7_1 (ji21)).f2)) := hcc24 2 _ rfl
           have hx24_3 : wc.cell? ⟨go24, ((ji21) : Int).toNat * 5 + 3, none⟩ = some (.int .i16 ((rd_T44 x7_1 (ji21)).f3)) := hcc24 3 _ rfl
           have hx24_4 : wc.cell? ⟨go24, ((ji21) : Int).toNat * 5 + 4, none⟩ = some (.int .i32 ((rd_T44 x7_1 (ji21)).f4)) := hcc24 4 _ rfl
           have hf24_0 : wc.frozen? ⟨go24, ((ji21) : Int).toNat * 5, none⟩ = false := hfr24 0
           have hf24_1 : wc.frozen? ⟨go24, ((ji21) : Int).toNat * 5 + 1, none⟩ = false := hfr24 1
           have hf24_2 : wc.frozen? ⟨go24, ((ji21) : Int).toNat * 5 + 2, none⟩ = false := hfr24 2
           have hf24_3 : wc.frozen? ⟨go24, ((ji21) : Int).toNat * 5 + 3, none⟩ = false := hfr24 3
           have hf24_4 : wc.frozen? ⟨go24, ((ji21) : Int).toNat * 5 + 4, none⟩ = false := hfr24 4
           clear hcl24 hcc24 hfr24 hM24
           replace p24 := eq_true p24
           replace q24 := eq_true q24
           have HX26 := Aside0.mk (show Kd.R k44 44 wc w.heap.size (fun k_ => k_ ≠ gb508) (.slice (some ⟨go24, 0, none⟩) x7_1.length co14) x7_1 from (by (with_reducible repeat (first | apply Kd.R_alloc | apply Kd.R_drewN | apply Kd.R_drew)); exact HO_7.out))
           obtain ⟨ce26, hcl26, hM26, hcc26, hfr26⟩ := Kd.R_elem HX26.out z44 ((ji21) : Int) (of_decide_eq_true (by first | (with_reducible assumption) | assumption)) (by have h_ : ((ji21) : Int) < ((x7_1.length : Int) : Int) := of_decide_eq_true (by first | (with_reducible assumption) | assumption); first | exact h_ | (have e_ := (Kd.R_reads' HO_7.out).1; omega) | simpa using h_)
           obtain rfl := k44_openM hM26
           have HP26 := Kd.R_seg HX26.out ((ji21) : Int) (of_decide_eq_true (by first | (with_reducible assumption) | assumption)) (by have h_ : ((ji21) : Int) < ((x7_1.length : Int) : Int) := of_decide_eq_true (by first | (with_reducible assumption) | assumption); first | exact h_ | (have e_ := (Kd.R_reads' HO_7.out).1; omega) | simpa using h_) (seg := [.int .u8 x509000_1, .int .u8 x509001_1, .int .u8 x509002_1, .int .i16 x509003_1, .int .i32 x509004_1]) (j := 0) hcl26 hcc26 (show 5 ≤ 5 from by decide) (x' := (⟨x509000_1, x509001_1, x509002_1, x509003_1, x509004_1⟩ : S44)) (k44_mkM _ _ _ (⟨x509000_1, x509001_1, x509002_1, x509003_1, x509004_1⟩ : S44) ) (fun _ hk => hk)
           have hx26_0 := hcc26 0 _ rfl
           (try simp only [show (k44).sz = 5 from rfl, Nat.mul_one, Nat.add_zero] at hx26_0)
           have hf26_0 := hfr26 0
           (try simp only [show (k44).sz = 5 from rfl, Nat.mul_one, Nat.add_zero] at hf26_0)
           have hx26_1 := hcc26 1 _ rfl
           (try simp only [show (k44).sz = 5 from rfl, Nat.mul_one, Nat.add_zero] at hx26_1)
           have hf26_1 := hfr26 1
           (try simp only [show (k44).sz = 5 from rfl, Nat.mul_one, Nat.add_zero] at hf26_1)
           have hx26_2 := hcc26 2 _ rfl
           (try simp only [show (k44).sz = 5 from rfl, Nat.mul_one, Nat.add_zero] at hx26_2)
           have hf26_2 := hfr26 2
           (try simp only [show (k44).sz = 5 from rfl, Nat.mul_one, Nat.add_zero] at hf26_2)
           have hx26_3 := hcc26 3 _ rfl
           (try simp only [show (k44).sz = 5 from rfl, Nat.mul_one, Nat.add_zero] at hx26_3)
           have hf26_3 := hfr26 3
           (try simp only [show (k44).sz = 5 from rfl, Nat.mul_one, Nat.add_zero] at hf26_3)
           have hx26_4 := hcc26 4 _ rfl
           (try simp only [show (k44).sz = 5 from rfl, Nat.mul_one, Nat.add_zero] at hx26_4)
           have hf26_4 := hfr26 4
           (try simp only [show (k44).sz = 5 from rfl, Nat.mul_one, Nat.add_zero] at hf26_4)
           clear hcl26 hcc26 hfr26 hM26
           go_wp2_with (first | ((with_reducible refine gate_store (t := 44) (p := 52) rfl ?_); refine store_event (t := 44) (p := 52) (v := ?vo_w27) (w1 := (((((wc.setCell ⟨go24, ((ji21) : Int).toNat * 5, none⟩ (.int .u8 x509000_1)).setCell ⟨go24, ((ji21) : Int).toNat * 5 + 1, none⟩ (.int .u8 x509001_1)).setCell ⟨go24, ((ji21) : Int).toNat * 5 + 2, none⟩ (.int .u8 x509002_1)).setCell ⟨go24, ((ji21) : Int).toNat * 5 + 3, none⟩ (.int .i16 x509003_1)).setCell ⟨go24, ((ji21) : Int).toNat * 5 + 4, none⟩ (.int .i32 x509004_1))) ?hg ?ho ?hn ?hr ?_; (case ho => rfl); (case hg => rfl); (case hn => rfl); (case hr => first | (go_simp; done) | (go_simp; rfl)); intro w27 hw; have hg : wc.grownBy w27 (some go24) := (by rw [hw]; exact HP26.2); have hp_ : Kd.R k44 44 w27 w.heap.size (fun k_ => k_ ≠ gb508) (.slice (some ⟨go24, 0, none⟩) x7_1.length co14) y517 := (by rw [hw, Ny517.out]; exact HP26.1); clear HP26; have n0_ := Aside0.mk (hp_); have n1_ := Aside0.mk (blk_grown (g := gb508) (o := .cells #[.int .u8 x509000_1, .int .u8 x509001_1, .int .u8 x509002_1, .int .i16 x509003_1, .int .i32 x509004_1] 44 (0, 0)) bk_now hg (Kd.R_away HO_7.out (fun _ hk => hk))); have n2_ := Aside0.mk ((by rw [hw]; exact below_set (below_set (below_set (below_set (below_set (HB.out) GB24.out) GB24.out) GB24.out) GB24.out) GB24.out : Below w.heap.size w w27)); clear HO_7; clear BK508; clear HB; have HO_7 := n0_; have BK508 := n1_; have HB := n2_; clear n0_ n1_ n2_; clear hg hw hp_))
           go_roundg kj12
           case measure => have := HK1.out; have := HJ12.out; omega
           case rel => exact ⟨(y517), (wrap64 ((ji21) + 1)), (x509000_1), (x509001_1), (x509002_1), (x509003_1), (x509004_1), (by first | rfl | (simp; done) | (simp only [← hji21] <;> (first | rfl | simp)) | (simp [*]; done)), H', ⟨by have := HK1.out; have := HJ12.out; omega⟩, ⟨by (with_reducible repeat (first | apply Kd.R_alloc | apply Kd.R_drewN | apply Kd.R_drew)); exact HO_7.out⟩, ⟨bk_now⟩, ⟨b_now⟩⟩
          ·rw [if_neg c23] at H
           exact absurd H (by simp)
         ·rw [if_neg c22] at H
          exact absurd H (by simp)
        ·replace c20 := Bool.eq_false_iff.mpr c20
         subst c20
         replace H := sh_f H
         have HC28 := Aside0.mk H
         clear H
         go_upto_region 11 with (fail)
         go_cut [58] (fun v58 wc => ∃ (kq : Nat) (x58_27 : Bool), v58 = .bool x58_27 ∧ Aside0 (stockadelaw05_GraphBlind.j2 kq l0 a1 x7_1 x8_1 ((rd_T44 x7_1 x8_1).f0) x58_27 x509000_1 x509001_1 x509002_1 x509003_1 x509004_1 = some r) ∧ Aside0 (kq ≤ kj12) ∧ Aside0 (Kd.R k44 44 wc w.heap.size (fun k_ => k_ ≠ gb508) (.slice (some ad513) x7_1.length co14) x7_1) ∧ Aside0 (wc.heap[gb508]? = some (.cells #[.int .u8 x509000_1, .int .u8 x509001_1, .int .u8 x509002_1, .int .i16 x509003_1, .int .i32 x509004_1] 44 (0, 0))) ∧ Aside0 (Below w.heap.size w wc))
         case first =>
          have H := HC28.out
          clear HC28
          by_cases c29 : ((rd_T44 x7_1 x8_1).f0) = 183
          ·rw [if_pos c29] at H
           have c29b0 : (((rd_T44 x7_1 x8_1).f0) == 183) = true := beq_iff_eq.mpr c29
           have c29b1 : (((rd_T44 x7_1 x8_1).f0) != 183) = false := bne_eq_false_iff_eq.mpr c29
           clear c29
           (first | rw [c29b0] | (simp only [i64_w, i32_w]; rw [c29b0]) | skip)
           have H' := Aside0.mk H
           clear H
           go_wp2
           go_meet
           case rel => exact ⟨_, (true), eq_now, H', ⟨by have := HK1.out; have := HJ12.out; first | omega | exact Nat.le_refl _⟩, ⟨by (with_reducible repeat (first | apply Kd.R_alloc | apply Kd.R_drewN | apply Kd.R_drew)); exact HO_7.out⟩, ⟨bk_now⟩, ⟨b_now⟩⟩
          ·rw [if_neg c29] at H
           have c29b0 : (((rd_T44 x7_1 x8_1).f0) == 183) = false := beq_eq_false_iff_ne.mpr c29
           have c29b1 : (((rd_T44 x7_1 x8_1).f0) != 183) = true := bne_iff_ne.mpr c29
           (first | rw [c29b0] | (simp only [i64_w, i32_w]; rw [c29b0]) | skip)
           have H' := Aside0.mk H
           clear H
           go_wp2
           go_meet
           case rel => exact ⟨_, ((((rd_T44 x7_1 x8_1).f0) == 21)), eq_now, H', ⟨by have := HK1.out; have := HJ12.out; first | omega | exact Nat.le_refl _⟩, ⟨by (with_reducible repeat (first | apply Kd.R_alloc | apply Kd.R_drewN | apply Kd.R_drew)); exact HO_7.out⟩, ⟨bk_now⟩, ⟨b_now⟩⟩
         case rest =>
          clear HC28
          try clear c1
          try clear c2
          try clear p2
          try clear q2
          try clear hx2
          try clear c4
          try clear c4b0
          try clear c4b1
          try clear c5
          try clear p5
          try clear q5
          try clear hx5
          try clear p6
          try clear c10
          try clear c11
          try clear c11b0
          try clear c12
          try clear c12b0
          try clear c15
          try clear c15b0
          try clear c15b1
          try clear c16
          try clear c16b0
          try clear c20
          try clear c22
          try clear c22b0
          try clear c23
          try clear c23b0
          try clear c24
          try clear p24
          try clear q24
          try clear hx24
          try clear hf24
          try clear c26
          try clear hx26
          try clear hf26
          try clear c29
          try clear c29b0
          try clear c29b1
          try clear hcz25
          try clear hx24_0
          try clear hx24_1
          try clear hx24_2
          try clear hx24_3
          try clear hx24_4
          try clear hx26_0
          try clear hx26_1
          try clear hx26_2
          try clear hx26_3
          try clear hx26_4
          try clear hx513_0
          try clear hx513_1
          try clear hx513_2
          try clear hx513_3
          try clear hx513_4
          try clear p2
          try clear p24
          try clear p5
          try clear p513
          try clear p6
          try clear q24
          try clear q5
          try clear q513
          obtain ⟨kq, x58_27, rfl, HA, HJ27, HO_7, BK508, HB⟩ := hcut
          cases kq with
          | zero => exact absurd HA.out (by simp [stockadelaw05_GraphBlind.j2])
          | succ kj27 =>
           have H := HA.out
           clear HA
           simp only [stockadelaw05_GraphBlind.j2] at H
           by_cases c30 : x58_27 = true
           ·subst c30
            replace H := sh_t H
            by_cases c31 : 0 ≤ x8_1
            ·rw [if_pos c31] at H
             have c31b0 : decide (0 ≤ x8_1) = true := decide_eq_true c31
             clear c31
             by_cases c32 : x8_1 < (x7_1.length : Int)
             ·rw [if_pos c32] at H
              have c32b0 : decide (x8_1 < (x7_1.length : Int)) = true := decide_eq_true c32
              clear c32
              obtain ⟨y518, hy518⟩ : ∃ y_ : List (S44), y_ = (x7_1.set (x8_1 : Int).toNat (⟨(rd_T44 x7_1 x8_1).f0, Int.tmod a1 10, (rd_T44 x7_1 x8_1).f2, (rd_T44 x7_1 x8_1).f3, (rd_T44 x7_1 x8_1).f4⟩ : S44)) := ⟨_, rfl⟩
              replace H : (if x8_1 < (l0.length : Int) then (if ((rd_T44 l0 x8_1).f1) > 10 then (stockadelaw05_GraphBlind.l0 kj27 l0 a1 (y518.set (x8_1 : Int).toNat (⟨(rd_T44 l0 x8_1).f0, (rd_T44 l0 x8_1).f1, (rd_T44 l0 x8_1).f2, (rd_T44 l0 x8_1).f3, (rd_T44 l0 x8_1).f4⟩ : S44)) (wrap64 (x8_1 + 1)) x509000_1 x509001_1 x509002_1 x509003_1 x509004_1) else (if ((rd_T44 l0 x8_1).f1) = 10 then (if ((rd_T44 x7_1 x8_1).f0) = 183 then (stockadelaw05_GraphBlind.l0 kj27 l0 a1 (y518.set (x8_1 : Int).toNat (⟨(rd_T44 l0 x8_1).f0, (rd_T44 l0 x8_1).f1, (rd_T44 l0 x8_1).f2, (rd_T44 l0 x8_1).f3, (rd_T44 l0 x8_1).f4⟩ : S44)) (wrap64 (x8_1 + 1)) x509000_1 x509001_1 x509002_1 x509003_1 x509004_1) else (stockadelaw05_GraphBlind.l0 kj27 l0 a1 y518 (wrap64 (x8_1 + 1)) x509000_1 x509001_1 x509002_1 x509003_1 x509004_1)) else (stockadelaw05_GraphBlind.l0 kj27 l0 a1 y518 (wrap64 (x8_1 + 1)) x509000_1 x509001_1 x509002_1 x509003_1 x509004_1))) else (none)) = some r := by first | (rw [hy518]; with_reducible exact H) | (have H2_ := (Option.bind_some _ _).symm.trans H; rw [hy518]; with_reducible exact H2_) | (have H2_ := (Option.bind_some _ _).symm.trans H; with_reducible exact H2_) | with_reducible exact H | (rw [hy518]; exact H) | exact H
              have Ny518 := Aside0.mk hy518
              clear hy518
              by_cases c34 : x8_1 < (l0.length : Int)
              ·rw [if_pos c34] at H
               have c34b0 : decide (x8_1 < (l0.length : Int)) = true := decide_eq_true c34
               clear c34
               by_cases c35 : ((rd_T44 l0 x8_1).f1) > 10
               ·rw [if_pos c35] at H
                have c35b0 : decide (10 < ((rd_T44 l0 x8_1).f1)) = true := decide_eq_true c35
                clear c35
                obtain ⟨y521, hy521⟩ : ∃ y_ : List (S44), y_ = (y518.set (x8_1 : Int).toNat (⟨(rd_T44 l0 x8_1).f0, (rd_T44 l0 x8_1).f1, (rd_T44 l0 x8_1).f2, (rd_T44 l0 x8_1).f3, (rd_T44 l0 x8_1).f4⟩ : S44)) := ⟨_, rfl⟩
                replace H : (stockadelaw05_GraphBlind.l0 kj27 l0 a1 y521 (wrap64 (x8_1 + 1)) x509000_1 x509001_1 x509002_1 x509003_1 x509004_1) = some r := by first | (rw [hy521]; with_reducible exact H) | (have H2_ := (Option.bind_some _ _).symm.trans H; rw [hy521]; with_reducible exact H2_) | (have H2_ := (Option.bind_some _ _).symm.trans H; with_reducible exact H2_) | with_reducible exact H | (rw [hy521]; exact H) | exact H
                have Ny521 := Aside0.mk hy521
                clear hy521
                have H' := Aside0.mk H
                clear H
                have p33 : 0 ≤ (x8_1 : Int) := of_decide_eq_true (by first | (with_reducible assumption) | assumption)
                have q33 : (x8_1 : Int) < ((x7_1.length : Int) : Int) := of_decide_eq_true (by first | (with_reducible assumption) | assumption)
                obtain ⟨go33, co33, eo33, gb33, gl33, cl33, HG33⟩ := Kd.R_form HO_7.out (by omega)
                (first | cases eo33 | (injection eo33 with ea_ en_ ec_; (first | subst ea_ | (injection ea_ with ea_; subst ea_)); subst ec_; clear en_))
                have GB33 := Aside0.mk gb33
                have GG33 := Aside0.mk HG33
                clear gb33 gl33 HG33
                obtain ⟨ce33, hcl33, hM33, hcc33, hfr33⟩ := Kd.R_elem HO_7.out z44 (x8_1 : Int) p33 q33
                obtain rfl := k44_openM hM33
                have hx33_0 : wc.cell? ⟨go33, (x8_1 : Int).toNat * 5, none⟩ = some (.int .u8 ((rd_T44 x7_1 x8_1).f0)) := hcc33 0 _ rfl
                have hx33_1 : wc.cell? ⟨go33, (x8_1 : Int).toNat * 5 + 1, none⟩ = some (.int .u8 ((rd_T44 x7_1 x8_1).f1)) := hcc33 1 _ rfl
                have hx33_2 : wc.cell? ⟨go33, (x8_1 : Int).toNat * 5 + 2, none⟩ = some (.int .u8 ((rd_T44 x7_1 x8_1).f2)) := hcc33 2 _ rfl
                have hx33_3 : wc.cell? ⟨go33, (x8_1 : Int).toNat * 5 + 3, none⟩ = some (.int .i16 ((rd_T44 x7_1 x8_1).f3)) := hcc33 3 _ rfl
                have hx33_4 : wc.cell? ⟨go33, (x8_1 : Int).toNat * 5 + 4, none⟩ = some (.int .i32 ((rd_T44 x7_1 x8_1).f4)) := hcc33 4 _ rfl
                have hf33_0 : wc.frozen? ⟨go33, (x8_1 : Int).toNat * 5, none⟩ = false := hfr33 0
                have hf33_1 : wc.frozen? ⟨go33, (x8_1 : Int).toNat * 5 + 1, none⟩ = false := hfr33 1
                have hf33_2 : wc.frozen? ⟨go33, (x8_1 : Int).toNat * 5 + 2, none⟩ = false := hfr33 2
                have hf33_3 : wc.frozen? ⟨go33, (x8_1 : Int).toNat * 5 + 3, none⟩ = false := hfr33 3
                have hf33_4 : wc.frozen? ⟨go33, (x8_1 : Int).toNat * 5 + 4, none⟩ = false := hfr33 4
                clear hcl33 hcc33 hfr33 hM33
                replace p33 := eq_true p33
                replace q33 := eq_true q33
                have HX37 := Aside0.mk (show Kd.R k44 44 wc w.heap.size (fun k_ => k_ ≠ gb508) (.slice (some ⟨go33, 0, none⟩) x7_1.length co14) x7_1 from (by (with_reducible repeat (first | apply Kd.R_alloc | apply Kd.R_drewN | apply Kd.R_drew)); exact HO_7.out))
                obtain ⟨ce37, hcl37, hM37, hcc37, hfr37⟩ := Kd.R_elem HX37.out z44 (x8_1 : Int) (of_decide_eq_true (by first | (with_reducible assumption) | assumption)) (by have h_ : (x8_1 : Int) < ((x7_1.length : Int) : Int) := of_decide_eq_true (by first | (with_reducible assumption) | assumption); first | exact h_ | (have e_ := (Kd.R_reads' HO_7.out).1; omega) | simpa using h_)
                obtain rfl := k44_openM hM37
                have HP37 := Kd.R_seg HX37.out (x8_1 : Int) (of_decide_eq_true (by first | (with_reducible assumption) | assumption)) (by have h_ : (x8_1 : Int) < ((x7_1.length : Int) : Int) := of_decide_eq_true (by first | (with_reducible assumption) | assumption); first | exact h_ | (have e_ := (Kd.R_reads' HO_7.out).1; omega) | simpa using h_) (seg := [.int .u8 (Int.tmod a1 10)]) (j := 1) hcl37 hcc37 (show 2 ≤ 5 from by decide) (x' := (⟨(rd_T44 x7_1 x8_1).f0, Int.tmod a1 10, (rd_T44 x7_1 x8_1).f2, (rd_T44 x7_1 x8_1).f3, (rd_T44 x7_1 x8_1).f4⟩ : S44)) (k44_mkM _ _ _ (⟨(rd_T44 x7_1 x8_1).f0, Int.tmod a1 10, (rd_T44 x7_1 x8_1).f2, (rd_T44 x7_1 x8_1).f3, (rd_T44 x7_1 x8_1).f4⟩ : S44) ) (fun _ hk => hk)
                have hx37_1 := hcc37 1 _ rfl
                (try simp only [show (k44).sz = 5 from rfl, Nat.mul_one, Nat.add_zero] at hx37_1)
                have hf37_1 := hfr37 1
                (try simp only [show (k44).sz = 5 from rfl, Nat.mul_one, Nat.add_zero] at hf37_1)
                clear hcl37 hcc37 hfr37 hM37
                go_wp2_with (first | ((with_reducible refine gate_store (t := 5) (p := 64) rfl ?_); refine store_event (t := 5) (p := 64) (v := ?vo_w38) (w1 := (wc.setCell ⟨go33, (x8_1 : Int).toNat * 5 + 1, none⟩ (.int .u8 (Int.tmod a1 10)))) ?hg ?ho ?hn ?hr ?_; (case ho => rfl); (case hg => rfl); (case hn => rfl); (case hr => first | (go_simp; done) | (go_simp; rfl)); intro w38 hw; have hg : wc.grownBy w38 (some go33) := (by rw [hw]; exact HP37.2); have hp_ : Kd.R k44 44 w38 w.heap.size (fun k_ => k_ ≠ gb508) (.slice (some ⟨go33, 0, none⟩) x7_1.length co14) y518 := (by rw [hw, Ny518.out]; exact HP37.1); clear HP37; have n0_ := Aside0.mk (hp_); have n1_ := Aside0.mk (blk_grown (g := gb508) (o := .cells #[.int .u8 x509000_1, .int .u8 x509001_1, .int .u8 x509002_1, .int .i16 x509003_1, .int .i32 x509004_1] 44 (0, 0)) bk_now hg (Kd.R_away HO_7.out (fun _ hk => hk))); have n2_ := Aside0.mk ((by rw [hw]; exact below_set (HB.out) GB33.out : Below w.heap.size w w38)); clear HO_7; clear BK508; clear HB; have HO_7 := n0_; have BK508 := n1_; have HB := n2_; clear n0_ n1_ n2_; clear hg hw hp_; have p519 : 0 ≤ (x8_1 : Int) := of_decide_eq_true (by first | (with_reducible assumption) | assumption); have q519 : x8_1 < (l0.length : Int) := of_decide_eq_true (by first | (with_reducible assumption) | assumption); obtain ⟨ad519, e519, hx519_0, hx519_1, hx519_2, hx519_3, hx519_4⟩ := at_T44 HR0.out x8_1 p519 q519; cases e519; replace hx519_0 := (HB.out.cell (World.block_lt_of_cell? w _ hx519_0)).trans hx519_0; replace hx519_1 := (HB.out.cell (World.block_lt_of_cell? w _ hx519_1)).trans hx519_1; replace hx519_2 := (HB.out.cell (World.block_lt_of_cell? w _ hx519_2)).trans hx519_2; replace hx519_3 := (HB.out.cell (World.block_lt_of_cell? w _ hx519_3)).trans hx519_3; replace hx519_4 := (HB.out.cell (World.block_lt_of_cell? w _ hx519_4)).trans hx519_4; replace p519 := eq_true p519; replace q519 := eq_true q519; have p520 : 0 ≤ (x8_1 : Int) := of_decide_eq_true (by first | (with_reducible assumption) | assumption); have q520 : x8_1 < (l0.length : Int) := of_decide_eq_true (by first | (with_reducible assumption) | assumption); obtain ⟨ad520, e520, hx520_0, hx520_1, hx520_2, hx520_3, hx520_4⟩ := at_T44 HR0.out x8_1 p520 q520; obtain rfl : ad519 = ad520 := (by injection e520); replace hx520_0 := (HB.out.cell (World.block_lt_of_cell? w _ hx520_0)).trans hx520_0; replace hx520_1 := (HB.out.cell (World.block_lt_of_cell? w _ hx520_1)).trans hx520_1; replace hx520_2 := (HB.out.cell (World.block_lt_of_cell? w _ hx520_2)).trans hx520_2; replace hx520_3 := (HB.out.cell (World.block_lt_of_cell? w _ hx520_3)).trans hx520_3; replace hx520_4 := (HB.out.cell (World.block_lt_of_cell? w _ hx520_4)).trans hx520_4; replace p520 := eq_true p520; replace q520 := eq_true q520; have p36 : 0 ≤ (x8_1 : Int) := of_decide_eq_true (by first | (with_reducible assumption) | assumption); have q36 : (x8_1 : Int) < ((x7_1.length : Int) : Int) := of_decide_eq_true (by first | (with_reducible assumption) | assumption); obtain ⟨ce36, hcl36, hM36, hcc36, hfr36⟩ := Kd.R_elem HO_7.out z44 (x8_1 : Int) p36 q36; obtain rfl := k44_openM hM36; have hx36_0 : w38.cell? ⟨go33, (x8_1 : Int).toNat * 5, none⟩ = some (.int .u8 ((rd_T44 y518 x8_1).f0)) := hcc36 0 _ rfl; have hx36_1 : w38.cell? ⟨go33, (x8_1 : Int).toNat * 5 + 1, none⟩ = some (.int .u8 ((rd_T44 y518 x8_1).f1)) := hcc36 1 _ rfl; have hx36_2 : w38.cell? ⟨go33, (x8_1 : Int).toNat * 5 + 2, none⟩ = some (.int .u8 ((rd_T44 y518 x8_1).f2)) := hcc36 2 _ rfl; have hx36_3 : w38.cell? ⟨go33, (x8_1 : Int).toNat * 5 + 3, none⟩ = some (.int .i16 ((rd_T44 y518 x8_1).f3)) := hcc36 3 _ rfl; have hx36_4 : w38.cell? ⟨go33, (x8_1 : Int).toNat * 5 + 4, none⟩ = some (.int .i32 ((rd_T44 y518 x8_1).f4)) := hcc36 4 _ rfl; have hf36_0 : w38.frozen? ⟨go33, (x8_1 : Int).toNat * 5, none⟩ = false := hfr36 0; have hf36_1 : w38.frozen? ⟨go33, (x8_1 : Int).toNat * 5 + 1, none⟩ = false := hfr36 1; have hf36_2 : w38.frozen? ⟨go33, (x8_1 : Int).toNat * 5 + 2, none⟩ = false := hfr36 2; have hf36_3 : w38.frozen? ⟨go33, (x8_1 : Int).toNat * 5 + 3, none⟩ = false := hfr36 3; have hf36_4 : w38.frozen? ⟨go33, (x8_1 : Int).toNat * 5 + 4, none⟩ = false := hfr36 4; clear hcl36 hcc36 hfr36 hM36; replace p36 := eq_true p36; replace q36 := eq_true q36; have HX39 := Aside0.mk (show Kd.R k44 44 w38 w.heap.size (fun k_ => k_ ≠ gb508) (.slice (some ⟨go33, 0, none⟩) x7_1.length co14) y518 from (by (with_reducible repeat (first | apply Kd.R_alloc | apply Kd.R_drewN | apply Kd.R_drew)); exact HO_7.out)); obtain ⟨ce39, hcl39, hM39, hcc39, hfr39⟩ := Kd.R_elem HX39.out z44 (x8_1 : Int) (of_decide_eq_true (by first | (with_reducible assumption) | assumption)) (by have h_ : (x8_1 : Int) < ((x7_1.length : Int) : Int) := of_decide_eq_true (by first | (with_reducible assumption) | assumption); first | exact h_ | (have e_ := (Kd.R_reads' HO_7.out).1; omega) | simpa using h_); obtain rfl := k44_openM hM39; have HP39 := Kd.R_seg HX39.out (x8_1 : Int) (of_decide_eq_true (by first | (with_reducible assumption) | assumption)) (by have h_ : (x8_1 : Int) < ((x7_1.length : Int) : Int) := of_decide_eq_true (by first | (with_reducible assumption) | assumption); first | exact h_ | (have e_ := (Kd.R_reads' HO_7.out).1; omega) | simpa using h_) (seg := [.int .u8 ((rd_T44 l0 x8_1).f0), .int .u8 ((rd_T44 l0 x8_1).f1), .int .u8 ((rd_T44 l0 x8_1).f2), .int .i16 ((rd_T44 l0 x8_1).f3), .int .i32 ((rd_T44 l0 x8_1).f4)]) (j := 0) hcl39 hcc39 (show 5 ≤ 5 from by decide) (x' := (⟨(rd_T44 l0 x8_1).f0, (rd_T44 l0 x8_1).f1, (rd_T44 l0 x8_1).f2, (rd_T44 l0 x8_1).f3, (rd_T44 l0 x8_1).f4⟩ : S44)) (k44_mkM _ _ _ (⟨(rd_T44 l0 x8_1).f0, (rd_T44 l0 x8_1).f1, (rd_T44 l0 x8_1).f2, (rd_T44 l0 x8_1).f3, (rd_T44 l0 x8_1).f4⟩ : S44) ) (fun _ hk => hk); have hx39_0 := hcc39 0 _ rfl; (try simp only [show (k44).sz = 5 from rfl, Nat.mul_one, Nat.add_zero] at hx39_0); have hf39_0 := hfr39 0; (try simp only [show (k44).sz = 5 from rfl, Nat.mul_one, Nat.add_zero] at hf39_0); have hx39_1 := hcc39 1 _ rfl; (try simp only [show (k44).sz = 5 from rfl, Nat.mul_one, Nat.add_zero] at hx39_1); have hf39_1 := hfr39 1; (try simp only [show (k44).sz = 5 from rfl, Nat.mul_one, Nat.add_zero] at hf39_1); have hx39_2 := hcc39 2 _ rfl; (try simp only [show (k44).sz = 5 from rfl, Nat.mul_one, Nat.add_zero] at hx39_2); have hf39_2 := hfr39 2; (try simp only [show (k44).sz = 5 from rfl, Nat.mul_one, Nat.add_zero] at hf39_2); have hx39_3 := hcc39 3 _ rfl; (try simp only [show (k44).sz = 5 from rfl, Nat.mul_one, Nat.add_zero] at hx39_3); have hf39_3 := hfr39 3; (try simp only [show (k44).sz = 5 from rfl, Nat.mul_one, Nat.add_zero] at hf39_3); have hx39_4 := hcc39 4 _ rfl; (try simp only [show (k44).sz = 5 from rfl, Nat.mul_one, Nat.add_zero] at hx39_4); have hf39_4 := hfr39 4; (try simp only [show (k44).sz = 5 from rfl, Nat.mul_one, Nat.add_zero] at hf39_4); clear hcl39 hcc39 hfr39 hM39) | ((with_reducible refine gate_store (t := 44) (p := 89) rfl ?_); refine store_event (t := 44) (p := 89) (v := ?vo_w40) (w1 := (((((w38.setCell ⟨go33, (x8_1 : Int).toNat * 5, none⟩ (.int .u8 ((rd_T44 l0 x8_1).f0))).setCell ⟨go33, (x8_1 : Int).toNat * 5 + 1, none⟩ (.int .u8 ((rd_T44 l0 x8_1).f1))).setCell ⟨go33, (x8_1 : Int).toNat * 5 + 2, none⟩ (.int .u8 ((rd_T44 l0 x8_1).f2))).setCell ⟨go33, (x8_1 : Int).toNat * 5 + 3, none⟩ (.int .i16 ((rd_T44 l0 x8_1).f3))).setCell ⟨go33, (x8_1 : Int).toNat * 5 + 4, none⟩ (.int .i32 ((rd_T44 l0 x8_1).f4)))) ?hg ?ho ?hn ?hr ?_; (case ho => rfl); (case hg => rfl); (case hn => rfl); (case hr => first | (go_simp; done) | (go_simp; rfl)); intro w40 hw; have hg : w38.grownBy w40 (some go33) := (by rw [hw]; exact HP39.2); have hp_ : Kd.R k44 44 w40 w.heap.size (fun k_ => k_ ≠ gb508) (.slice (some ⟨go33, 0, none⟩) x7_1.length co14) y521 := (by rw [hw, Ny521.out]; exact HP39.1); clear HP39; have n0_ := Aside0.mk (hp_); have n1_ := Aside0.mk (blk_grown (g := gb508) (o := .cells #[.int .u8 x509000_1, .int .u8 x509001_1, .int .u8 x509002_1, .int .i16 x509003_1, .int .i32 x509004_1] 44 (0, 0)) bk_now hg (Kd.R_away HO_7.out (fun _ hk => hk))); have n2_ := Aside0.mk ((by rw [hw]; exact below_set (below_set (below_set (below_set (below_set (HB.out) GB33.out) GB33.out) GB33.out) GB33.out) GB33.out : Below w.heap.size w w40)); clear HO_7; clear BK508; clear HB; have HO_7 := n0_; have BK508 := n1_; have HB := n2_; clear n0_ n1_ n2_; clear hg hw hp_))
                go_roundg kj27
                case measure => have := HK1.out; have := HJ12.out; have := HJ27.out; omega
                case rel => exact ⟨(y521), (wrap64 (x8_1 + 1)), (x509000_1), (x509001_1), (x509002_1), (x509003_1), (x509004_1), eq_now, H', ⟨by have := HK1.out; have := HJ12.out; have := HJ27.out; omega⟩, ⟨by (with_reducible repeat (first | apply Kd.R_alloc | apply Kd.R_drewN | apply Kd.R_drew)); exact HO_7.out⟩, ⟨bk_now⟩, ⟨b_now⟩⟩
               ·rw [if_neg c35] at H
                have c35b0 : decide (10 < ((rd_T44 l0 x8_1).f1)) = false := decide_eq_false c35
                clear c35
                by_cases c41 : ((rd_T44 l0 x8_1).f1) = 10
                ·rw [if_pos c41] at H
                 have c41b0 : (((rd_T44 l0 x8_1).f1) == 10) = true := beq_iff_eq.mpr c41
                 have c41b1 : (((rd_T44 l0 x8_1).f1) != 10) = false := bne_eq_false_iff_eq.mpr c41
                 clear c41
                 by_cases c42 : ((rd_T44 x7_1 x8_1).f0) = 183
                 ·rw [if_pos c42] at H
                  have c42b0 : (((rd_T44 x7_1 x8_1).f0) == 183) = true := beq_iff_eq.mpr c42
                  have c42b1 : (((rd_T44 x7_1 x8_1).f0) != 183) = false := bne_eq_false_iff_eq.mpr c42
                  clear c42
                  obtain ⟨y524, hy524⟩ : ∃ y_ : List (S44), y_ = (y518.set (x8_1 : Int).toNat (⟨(rd_T44 l0 x8_1).f0, (rd_T44 l0 x8_1).f1, (rd_T44 l0 x8_1).f2, (rd_T44 l0 x8_1).f3, (rd_T44 l0 x8_1).f4⟩ : S44)) := ⟨_, rfl⟩
                  replace H : (stockadelaw05_GraphBlind.l0 kj27 l0 a1 y524 (wrap64 (x8_1 + 1)) x509000_1 x509001_1 x509002_1 x509003_1 x509004_1) = some r := by first | (rw [hy524]; with_reducible exact H) | (have H2_ := (Option.bind_some _ _).symm.trans H; rw [hy524]; with_reducible exact H2_) | (have H2_ := (Option.bind_some _ _).symm.trans H; with_reducible exact H2_) | with_reducible exact H | (rw [hy524]; exact H) | exact H
                  have Ny524 := Aside0.mk hy524
                  clear hy524
                  have H' := Aside0.mk H
                  clear H
                  have p33 : 0 ≤ (x8_1 : Int) := of_decide_eq_true (by first | (with_reducible assumption) | assumption)
                  have q33 : (x8_1 : Int) < ((x7_1.length : Int) : Int) := of_decide_eq_true (by first | (with_reducible assumption) | assumption)
                  obtain ⟨go33, co33, eo33, gb33, gl33, cl33, HG33⟩ := Kd.R_form HO_7.out (by omega)
                  (first | cases eo33 | (injection eo33 with ea_ en_ ec_; (first | subst ea_ | (injection ea_ with ea_; subst ea_)); subst ec_; clear en_))
                  have GB33 := Aside0.mk gb33
                  have GG33 := Aside0.mk HG33
                  clear gb33 gl33 HG33
                  obtain ⟨ce33, hcl33, hM33, hcc33, hfr33⟩ := Kd.R_elem HO_7.out z44 (x8_1 : Int) p33 q33
                  obtain rfl := k44_openM hM33
                  have hx33_0 : wc.cell? ⟨go33, (x8_1 : Int).toNat * 5, none⟩ = some (.int .u8 ((rd_T44 x7_1 x8_1).f0)) := hcc33 0 _ rfl
                  have hx33_1 : wc.cell? ⟨go33, (x8_1 : Int).toNat * 5 + 1, none⟩ = some (.int .u8 ((rd_T44 x7_1 x8_1).f1)) := hcc33 1 _ rfl
                  have hx33_2 : wc.cell? ⟨go33, (x8_1 : Int).toNat * 5 + 2, none⟩ = some (.int .u8 ((rd_T44 x7_1 x8_1).f2)) := hcc33 2 _ rfl
                  have hx33_3 : wc.cell? ⟨go33, (x8_1 : Int).toNat * 5 + 3, none⟩ = some (.int .i16 ((rd_T44 x7_1 x8_1).f3)) := hcc33 3 _ rfl
                  have hx33_4 : wc.cell? ⟨go33, (x8_1 : Int).toNat * 5 + 4, none⟩ = some (.int .i32 ((rd_T44 x7_1 x8_1).f4)) := hcc33 4 _ rfl
                  have hf33_0 : wc.frozen? ⟨go33, (x8_1 : Int).toNat * 5, none⟩ = false := hfr33 0
                  have hf33_1 : wc.frozen? ⟨go33, (x8_1 : Int).toNat * 5 + 1, none⟩ = false := hfr33 1
                  have hf33_2 : wc.frozen? ⟨go33, (x8_1 : Int).toNat * 5 + 2, none⟩ = false := hfr33 2
                  have hf33_3 : wc.frozen? ⟨go33, (x8_1 : Int).toNat * 5 + 3, none⟩ = false := hfr33 3
                  have hf33_4 : wc.frozen? ⟨go33, (x8_1 : Int).toNat * 5 + 4, none⟩ = false := hfr33 4
                  clear hcl33 hcc33 hfr33 hM33
                  replace p33 := eq_true p33
                  replace q33 := eq_true q33
                  have HX44 := Aside0.mk (show Kd.R k44 44 wc w.heap.size (fun k_ => k_ ≠ gb508) (.slice (some ⟨go33, 0, none⟩) x7_1.length co14) x7_1 from (by (with_reducible repeat (first | apply Kd.R_alloc | apply Kd.R_drewN | apply Kd.R_drew)); exact HO_7.out))
                  obtain ⟨ce44, hcl44, hM44, hcc44, hfr44⟩ := Kd.R_elem HX44.out z44 (x8_1 : Int) (of_decide_eq_true (by first | (with_reducible assumption) | assumption)) (by have h_ : (x8_1 : Int) < ((x7_1.length : Int) : Int) := of_decide_eq_true (by first | (with_reducible assumption) | assumption); first | exact h_ | (have e_ := (Kd.R_reads' HO_7.out).1; omega) | simpa using h_)
                  obtain rfl := k44_openM hM44
                  have HP44 := Kd.R_seg HX44.out (x8_1 : Int) (of_decide_eq_true (by first | (with_reducible assumption) | assumption)) (by have h_ : (x8_1 : Int) < ((x7_1.length : Int) : Int) := of_decide_eq_true (by first | (with_reducible assumption) | assumption); first | exact h_ | (have e_ := (Kd.R_reads' HO_7.out).1; omega) | simpa using h_) (seg := [.int .u8 (Int.tmod a1 10)]) (j := 1) hcl44 hcc44 (show 2 ≤ 5 from by decide) (x' := (⟨(rd_T44 x7_1 x8_1).f0, Int.tmod a1 10, (rd_T44 x7_1 x8_1).f2, (rd_T44 x7_1 x8_1).f3, (rd_T44 x7_1 x8_1).f4⟩ : S44)) (k44_mkM _ _ _ (⟨(rd_T44 x7_1 x8_1).f0, Int.tmod a1 10, (rd_T44 x7_1 x8_1).f2, (rd_T44 x7_1 x8_1).f3, (rd_T44 x7_1 x8_1).f4⟩ : S44) ) (fun _ hk => hk)
                  have hx44_1 := hcc44 1 _ rfl
                  (try simp only [show (k44).sz = 5 from rfl, Nat.mul_one, Nat.add_zero] at hx44_1)
                  have hf44_1 := hfr44 1
                  (try simp only [show (k44).sz = 5 from rfl, Nat.mul_one, Nat.add_zero] at hf44_1)
                  clear hcl44 hcc44 hfr44 hM44
                  go_wp2_with (first | ((with_reducible refine gate_store (t := 5) (p := 64) rfl ?_); refine store_event (t := 5) (p := 64) (v := ?vo_w45) (w1 := (wc.setCell ⟨go33, (x8_1 : Int).toNat * 5 + 1, none⟩ (.int .u8 (Int.tmod a1 10)))) ?hg ?ho ?hn ?hr ?_; (case ho => rfl); (case hg => rfl); (case hn => rfl); (case hr => first | (go_simp; done) | (go_simp; rfl)); intro w45 hw; have hg : wc.grownBy w45 (some go33) := (by rw [hw]; exact HP44.2); have hp_ : Kd.R k44 44 w45 w.heap.size (fun k_ => k_ ≠ gb508) (.slice (some ⟨go33, 0, none⟩) x7_1.length co14) y518 := (by rw [hw, Ny518.out]; exact HP44.1); clear HP44; have n0_ := Aside0.mk (hp_); have n1_ := Aside0.mk (blk_grown (g := gb508) (o := .cells #[.int .u8 x509000_1, .int .u8 x509001_1, .int .u8 x509002_1, .int .i16 x509003_1, .int .i32 x509004_1] 44 (0, 0)) bk_now hg (Kd.R_away HO_7.out (fun _ hk => hk))); have n2_ := Aside0.mk ((by rw [hw]; exact below_set (HB.out) GB33.out : Below w.heap.size w w45)); clear HO_7; clear BK508; clear HB; have HO_7 := n0_; have BK508 := n1_; have HB := n2_; clear n0_ n1_ n2_; clear hg hw hp_; have p519 : 0 ≤ (x8_1 : Int) := of_decide_eq_true (by first | (with_reducible assumption) | assumption); have q519 : x8_1 < (l0.length : Int) := of_decide_eq_true (by first | (with_reducible assumption) | assumption); obtain ⟨ad519, e519, hx519_0, hx519_1, hx519_2, hx519_3, hx519_4⟩ := at_T44 HR0.out x8_1 p519 q519; cases e519; replace hx519_0 := (HB.out.cell (World.block_lt_of_cell? w _ hx519_0)).trans hx519_0; replace hx519_1 := (HB.out.cell (World.block_lt_of_cell? w _ hx519_1)).trans hx519_1; replace hx519_2 := (HB.out.cell (World.block_lt_of_cell? w _ hx519_2)).trans hx519_2; replace hx519_3 := (HB.out.cell (World.block_lt_of_cell? w _ hx519_3)).trans hx519_3; replace hx519_4 := (HB.out.cell (World.block_lt_of_cell? w _ hx519_4)).trans hx519_4; replace p519 := eq_true p519; replace q519 := eq_true q519; have p522 : 0 ≤ (x8_1 : Int) := of_decide_eq_true (by first | (with_reducible assumption) | assumption); have q522 : x8_1 < (l0.length : Int) := of_decide_eq_true (by first | (with_reducible assumption) | assumption); obtain ⟨ad522, e522, hx522_0, hx522_1, hx522_2, hx522_3, hx522_4⟩ := at_T44 HR0.out x8_1 p522 q522; obtain rfl : ad519 = ad522 := (by injection e522); replace hx522_0 := (HB.out.cell (World.block_lt_of_cell? w _ hx522_0)).trans hx522_0; replace hx522_1 := (HB.out.cell (World.block_lt_of_cell? w _ hx522_1)).trans hx522_1; replace hx522_2 := (HB.out.cell (World.block_lt_of_cell? w _ hx522_2)).trans hx522_2; replace hx522_3 := (HB.out.cell (World.block_lt_of_cell? w _ hx522_3)).trans hx522_3; replace hx522_4 := (HB.out.cell (World.block_lt_of_cell? w _ hx522_4)).trans hx522_4; replace p522 := eq_true p522; replace q522 := eq_true q522; have p523 : 0 ≤ (x8_1 : Int) := of_decide_eq_true (by first | (with_reducible assumption) | assumption); have q523 : x8_1 < (l0.length : Int) := of_decide_eq_true (by first | (with_reducible assumption) | assumption); obtain ⟨ad523, e523, hx523_0, hx523_1, hx523_2, hx523_3, hx523_4⟩ := at_T44 HR0.out x8_1 p523 q523; obtain rfl : ad519 = ad523 := (by injection e523); replace hx523_0 := (HB.out.cell (World.block_lt_of_cell? w _ hx523_0)).trans hx523_0; replace hx523_1 := (HB.out.cell (World.block_lt_of_cell? w _ hx523_1)).trans hx523_1; replace hx523_2 := (HB.out.cell (World.block_lt_of_cell? w _ hx523_2)).trans hx523_2; replace hx523_3 := (HB.out.cell (World.block_lt_of_cell? w _ hx523_3)).trans hx523_3; replace hx523_4 := (HB.out.cell (World.block_lt_of_cell? w _ hx523_4)).trans hx523_4; replace p523 := eq_true p523; replace q523 := eq_true q523; have p43 : 0 ≤ (x8_1 : Int) := of_decide_eq_true (by first | (with_reducible assumption) | assumption); have q43 : (x8_1 : Int) < ((x7_1.length : Int) : Int) := of_decide_eq_true (by first | (with_reducible assumption) | assumption); obtain ⟨ce43, hcl43, hM43, hcc43, hfr43⟩ := Kd.R_elem HO_7.out z44 (x8_1 : Int) p43 q43; obtain rfl := k44_openM hM43; have hx43_0 : w45.cell? ⟨go33, (x8_1 : Int).toNat * 5, none⟩ = some (.int .u8 ((rd_T44 y518 x8_1).f0)) := hcc43 0 _ rfl; have hx43_1 : w45.cell? ⟨go33, (x8_1 : Int).toNat * 5 + 1, none⟩ = some (.int .u8 ((rd_T44 y518 x8_1).f1)) := hcc43 1 _ rfl; have hx43_2 : w45.cell? ⟨go33, (x8_1 : Int).toNat * 5 + 2, none⟩ = some (.int .u8 ((rd_T44 y518 x8_1).f2)) := hcc43 2 _ rfl; have hx43_3 : w45.cell? ⟨go33, (x8_1 : Int).toNat * 5 + 3, none⟩ = some (.int .i16 ((rd_T44 y518 x8_1).f3)) := hcc43 3 _ rfl; have hx43_4 : w45.cell? ⟨go33, (x8_1 : Int).toNat * 5 + 4, none⟩ = some (.int .i32 ((rd_T44 y518 x8_1).f4)) := hcc43 4 _ rfl; have hf43_0 : w45.frozen? ⟨go33, (x8_1 : Int).toNat * 5, none⟩ = false := hfr43 0; have hf43_1 : w45.frozen? ⟨go33, (x8_1 : Int).toNat * 5 + 1, none⟩ = false := hfr43 1; have hf43_2 : w45.frozen? ⟨go33, (x8_1 : Int).toNat * 5 + 2, none⟩ = false := hfr43 2; have hf43_3 : w45.frozen? ⟨go33, (x8_1 : Int).toNat * 5 + 3, none⟩ = false := hfr43 3; have hf43_4 : w45.frozen? ⟨go33, (x8_1 : Int).toNat * 5 + 4, none⟩ = false := hfr43 4; clear hcl43 hcc43 hfr43 hM43; replace p43 := eq_true p43; replace q43 := eq_true q43; have HX46 := Aside0.mk (show Kd.R k44 44 w45 w.heap.size (fun k_ => k_ ≠ gb508) (.slice (some ⟨go33, 0, none⟩) x7_1.length co14) y518 from (by (with_reducible repeat (first | apply Kd.R_alloc | apply Kd.R_drewN | apply Kd.R_drew)); exact HO_7.out)); obtain ⟨ce46, hcl46, hM46, hcc46, hfr46⟩ := Kd.R_elem HX46.out z44 (x8_1 : Int) (of_decide_eq_true (by first | (with_reducible assumption) | assumption)) (by have h_ : (x8_1 : Int) < ((x7_1.length : Int) : Int) := of_decide_eq_true (by first | (with_reducible assumption) | assumption); first | exact h_ | (have e_ := (Kd.R_reads' HO_7.out).1; omega) | simpa using h_); obtain rfl := k44_openM hM46; have HP46 := Kd.R_seg HX46.out (x8_1 : Int) (of_decide_eq_true (by first | (with_reducible assumption) | assumption)) (by have h_ : (x8_1 : Int) < ((x7_1.length : Int) : Int) := of_decide_eq_true (by first | (with_reducible assumption) | assumption); first | exact h_ | (have e_ := (Kd.R_reads' HO_7.out).1; omega) | simpa using h_) (seg := [.int .u8 ((rd_T44 l0 x8_1).f0), .int .u8 ((rd_T44 l0 x8_1).f1), .int .u8 ((rd_T44 l0 x8_1).f2), .int .i16 ((rd_T44 l0 x8_1).f3), .int .i32 ((rd_T44 l0 x8_1).f4)]) (j := 0) hcl46 hcc46 (show 5 ≤ 5 from by decide) (x' := (⟨(rd_T44 l0 x8_1).f0, (rd_T44 l0 x8_1).f1, (rd_T44 l0 x8_1).f2, (rd_T44 l0 x8_1).f3, (rd_T44 l0 x8_1).f4⟩ : S44)) (k44_mkM _ _ _ (⟨(rd_T44 l0 x8_1).f0, (rd_T44 l0 x8_1).f1, (rd_T44 l0 x8_1).f2, (rd_T44 l0 x8_1).f3, (rd_T44 l0 x8_1).f4⟩ : S44) ) (fun _ hk => hk); have hx46_0 := hcc46 0 _ rfl; (try simp only [show (k44).sz = 5 from rfl, Nat.mul_one, Nat.add_zero] at hx46_0); have hf46_0 := hfr46 0; (try simp only [show (k44).sz = 5 from rfl, Nat.mul_one, Nat.add_zero] at hf46_0); have hx46_1 := hcc46 1 _ rfl; (try simp only [show (k44).sz = 5 from rfl, Nat.mul_one, Nat.add_zero] at hx46_1); have hf46_1 := hfr46 1; (try simp only [show (k44).sz = 5 from rfl, Nat.mul_one, Nat.add_zero] at hf46_1); have hx46_2 := hcc46 2 _ rfl; (try simp only [show (k44).sz = 5 from rfl, Nat.mul_one, Nat.add_zero] at hx46_2); have hf46_2 := hfr46 2; (try simp only [show (k44).sz = 5 from rfl, Nat.mul_one, Nat.add_zero] at hf46_2); have hx46_3 := hcc46 3 _ rfl; (try simp only [show (k44).sz = 5 from rfl, Nat.mul_one, Nat.add_zero] at hx46_3); have hf46_3 := hfr46 3; (try simp only [show (k44).sz = 5 from rfl, Nat.mul_one, Nat.add_zero] at hf46_3); have hx46_4 := hcc46 4 _ rfl; (try simp only [show (k44).sz = 5 from rfl, Nat.mul_one, Nat.add_zero] at hx46_4); have hf46_4 := hfr46 4; (try simp only [show (k44).sz = 5 from rfl, Nat.mul_one, Nat.add_zero] at hf46_4); clear hcl46 hcc46 hfr46 hM46) | ((with_reducible refine gate_store (t := 44) (p := 89) rfl ?_); refine store_event (t := 44) (p := 89) (v := ?vo_w47) (w1 := (((((w45.setCell ⟨go33, (x8_1 : Int).toNat * 5, none⟩ (.int .u8 ((rd_T44 l0 x8_1).f0))).setCell ⟨go33, (x8_1 : Int).toNat * 5 + 1, none⟩ (.int .u8 ((rd_T44 l0 x8_1).f1))).setCell ⟨go33, (x8_1 : Int).toNat * 5 + 2, none⟩ (.int .u8 ((rd_T44 l0 x8_1).f2))).setCell ⟨go33, (x8_1 : Int).toNat * 5 + 3, none⟩ (.int .i16 ((rd_T44 l0 x8_1).f3))).setCell ⟨go33, (x8_1 : Int).toNat * 5 + 4, none⟩ (.int .i32 ((rd_T44 l0 x8_1).f4)))) ?hg ?ho ?hn ?hr ?_; (case ho => rfl); (case hg => rfl); (case hn => rfl); (case hr => first | (go_simp; done) | (go_simp; rfl)); intro w47 hw; have hg : w45.grownBy w47 (some go33) := (by rw [hw]; exact HP46.2); have hp_ : Kd.R k44 44 w47 w.heap.size (fun k_ => k_ ≠ gb508) (.slice (some ⟨go33, 0, none⟩) x7_1.length co14) y524 := (by rw [hw, Ny524.out]; exact HP46.1); clear HP46; have n0_ := Aside0.mk (hp_); have n1_ := Aside0.mk (blk_grown (g := gb508) (o := .cells #[.int .u8 x509000_1, .int .u8 x509001_1, .int .u8 x509002_1, .int .i16 x509003_1, .int .i32 x509004_1] 44 (0, 0)) bk_now hg (Kd.R_away HO_7.out (fun _ hk => hk))); have n2_ := Aside0.mk ((by rw [hw]; exact below_set (below_set (below_set (below_set (below_set (HB.out) GB33.out) GB33.out) GB33.out) GB33.out) GB33.out : Below w.heap.size w w47)); clear HO_7; clear BK508; clear HB; have HO_7 := n0_; have BK508 := n1_; have HB := n2_; clear n0_ n1_ n2_; clear hg hw hp_))
                  go_roundg kj27
                  case measure => have := HK1.out; have := HJ12.out; have := HJ27.out; omega
                  case rel => exact ⟨(y524), (wrap64 (x8_1 + 1)), (x509000_1), (x509001_1), (x509002_1), (x509003_1), (x509004_1), eq_now, H', ⟨by have := HK1.out; have := HJ12.out; have := HJ27.out; omega⟩, ⟨by (with_reducible repeat (first | apply Kd.R_alloc | apply Kd.R_drewN | apply Kd.R_drew)); exact HO_7.out⟩, ⟨bk_now⟩, ⟨b_now⟩⟩
                 ·rw [if_neg c42] at H
                  have c42b0 : (((rd_T44 x7_1 x8_1).f0) == 183) = false := beq_eq_false_iff_ne.mpr c42
                  have c42b1 : (((rd_T44 x7_1 x8_1).f0) != 183) = true := bne_iff_ne.mpr c42
                  have H' := Aside0.mk H
                  clear H
                  have p33 : 0 ≤ (x8_1 : Int) := of_decide_eq_true (by first | (with_reducible assumption) | assumption)
                  have q33 : (x8_1 : Int) < ((x7_1.length : Int) : Int) := of_decide_eq_true (by first | (with_reducible assumption) | assumption)
                  obtain ⟨go33, co33, eo33, gb33, gl33, cl33, HG33⟩ := Kd.R_form HO_7.out (by omega)
                  (first | cases eo33 | (injection eo33 with ea_ en_ ec_; (first | subst ea_ | (injection ea_ with ea_; subst ea_)); subst ec_; clear en_))
                  have GB33 := Aside0.mk gb33
                  have GG33 := Aside0.mk HG33
                  clear gb33 gl33 HG33
                  obtain ⟨ce33, hcl33, hM33, hcc33, hfr33⟩ := Kd.R_elem HO_7.out z44 (x8_1 : Int) p33 q33
                  obtain rfl := k44_openM hM33
                  have hx33_0 : wc.cell? ⟨go33, (x8_1 : Int).toNat * 5, none⟩ = some (.int .u8 ((rd_T44 x7_1 x8_1).f0)) := hcc33 0 _ rfl
                  have hx33_1 : wc.cell? ⟨go33, (x8_1 : Int).toNat * 5 + 1, none⟩ = some (.int .u8 ((rd_T44 x7_1 x8_1).f1)) := hcc33 1 _ rfl
                  have hx33_2 : wc.cell? ⟨go33, (x8_1 : Int).toNat * 5 + 2, none⟩ = some (.int .u8 ((rd_T44 x7_1 x8_1).f2)) := hcc33 2 _ rfl
                  have hx33_3 : wc.cell? ⟨go33, (x8_1 : Int).toNat * 5 + 3, none⟩ = some (.int .i16 ((rd_T44 x7_1 x8_1).f3)) := hcc33 3 _ rfl
                  have hx33_4 : wc.cell? ⟨go33, (x8_1 : Int).toNat * 5 + 4, none⟩ = some (.int .i32 ((rd_T44 x7_1 x8_1).f4)) := hcc33 4 _ rfl
                  have hf33_0 : wc.frozen? ⟨go33, (x8_1 : Int).toNat * 5, none⟩ = false := hfr33 0
                  have hf33_1 : wc.frozen? ⟨go33, (x8_1 : Int).toNat * 5 + 1, none⟩ = false := hfr33 1
                  have hf33_2 : wc.frozen? ⟨go33, (x8_1 : Int).toNat * 5 + 2, none⟩ = false := hfr33 2
                  have hf33_3 : wc.frozen? ⟨go33, (x8_1 : Int).toNat * 5 + 3, none⟩ = false := hfr33 3
                  have hf33_4 : wc.frozen? ⟨go33, (x8_1 : Int).toNat * 5 + 4, none⟩ = false := hfr33 4
                  clear hcl33 hcc33 hfr33 hM33
                  replace p33 := eq_true p33
                  replace q33 := eq_true q33
                  have HX48 := Aside0.mk (show Kd.R k44 44 wc w.heap.size (fun k_ => k_ ≠ gb508) (.slice (some ⟨go33, 0, none⟩) x7_1.length co14) x7_1 from (by (with_reducible repeat (first | apply Kd.R_alloc | apply Kd.R_drewN | apply Kd.R_drew)); exact HO_7.out))
                  obtain ⟨ce48, hcl48, hM48, hcc48, hfr48⟩ := Kd.R_elem HX48.out z44 (x8_1 : Int) (of_decide_eq_true (by first | (with_reducible assumption) | assumption)) (by have h_ : (x8_1 : Int) < ((x7_1.length : Int) : Int) := of_decide_eq_true (by first | (with_reducible assumption) | assumption); first | exact h_ | (have e_ := (Kd.R_reads' HO_7.out).1; omega) | simpa using h_)
                  obtain rfl := k44_openM hM48
                  have HP48 := Kd.R_seg HX48.out (x8_1 : Int) (of_decide_eq_true (by first | (with_reducible assumption) | assumption)) (by have h_ : (x8_1 : Int) < ((x7_1.length : Int) : Int) := of_decide_eq_true (by first | (with_reducible assumption) | assumption); first | exact h_ | (have e_ := (Kd.R_reads' HO_7.out).1; omega) | simpa using h_) (seg := [.int .u8 (Int.tmod a1 10)]) (j := 1) hcl48 hcc48 (show 2 ≤ 5 from by decide) (x' := (⟨(rd_T44 x7_1 x8_1).f0, Int.tmod a1 10, (rd_T44 x7_1 x8_1).f2, (rd_T44 x7_1 x8_1).f3, (rd_T44 x7_1 x8_1).f4⟩ : S44)) (k44_mkM _ _ _ (⟨(rd_T44 x7_1 x8_1).f0, Int.tmod a1 10, (rd_T44 x7_1 x8_1).f2, (rd_T44 x7_1 x8_1).f3, (rd_T44 x7_1 x8_1).f4⟩ : S44) ) (fun _ hk => hk)
                  have hx48_1 := hcc48 1 _ rfl
                  (try simp only [show (k44).sz = 5 from rfl, Nat.mul_one, Nat.add_zero] at hx48_1)
                  have hf48_1 := hfr48 1
                  (try simp only [show (k44).sz = 5 from rfl, Nat.mul_one, Nat.add_zero] at hf48_1)
                  clear hcl48 hcc48 hfr48 hM48
                  go_wp2_with (first | ((with_reducible refine gate_store (t := 5) (p := 64) rfl ?_); refine store_event (t := 5) (p := 64) (v := ?vo_w49) (w1 := (wc.setCell ⟨go33, (x8_1 : Int).toNat * 5 + 1, none⟩ (.int .u8 (Int.tmod a1 10)))) ?hg ?ho ?hn ?hr ?_; (case ho => rfl); (case hg => rfl); (case hn => rfl); (case hr => first | (go_simp; done) | (go_simp; rfl)); intro w49 hw; have hg : wc.grownBy w49 (some go33) := (by rw [hw]; exact HP48.2); have hp_ : Kd.R k44 44 w49 w.heap.size (fun k_ => k_ ≠ gb508) (.slice (some ⟨go33, 0, none⟩) x7_1.length co14) y518 := (by rw [hw, Ny518.out]; exact HP48.1); clear HP48; have n0_ := Aside0.mk (hp_); have n1_ := Aside0.mk (blk_grown (g := gb508) (o := .cells #[.int .u8 x509000_1, .int .u8 x509001_1, .int .u8 x509002_1, .int .i16 x509003_1, .int .i32 x509004_1] 44 (0, 0)) bk_now hg (Kd.R_away HO_7.out (fun _ hk => hk))); have n2_ := Aside0.mk ((by rw [hw]; exact below_set (HB.out) GB33.out : Below w.heap.size w w49)); clear HO_7; clear BK508; clear HB; have HO_7 := n0_; have BK508 := n1_; have HB := n2_; clear n0_ n1_ n2_; clear hg hw hp_; have p519 : 0 ≤ (x8_1 : Int) := of_decide_eq_true (by first | (with_reducible assumption) | assumption); have q519 : x8_1 < (l0.length : Int) := of_decide_eq_true (by first | (with_reducible assumption) | assumption); obtain ⟨ad519, e519, hx519_0, hx519_1, hx519_2, hx519_3, hx519_4⟩ := at_T44 HR0.out x8_1 p519 q519; cases e519; replace hx519_0 := (HB.out.cell (World.block_lt_of_cell? w _ hx519_0)).trans hx519_0; replace hx519_1 := (HB.out.cell (World.block_lt_of_cell? w _ hx519_1)).trans hx519_1; replace hx519_2 := (HB.out.cell (World.block_lt_of_cell? w _ hx519_2)).trans hx519_2; replace hx519_3 := (HB.out.cell (World.block_lt_of_cell? w _ hx519_3)).trans hx519_3; replace hx519_4 := (HB.out.cell (World.block_lt_of_cell? w _ hx519_4)).trans hx519_4; replace p519 := eq_true p519; replace q519 := eq_true q519; have p522 : 0 ≤ (x8_1 : Int) := of_decide_eq_true (by first | (with_reducible assumption) | assumption); have q522 : x8_1 < (l0.length : Int) := of_decide_eq_true (by first | (with_reducible assumption) | assumption); obtain ⟨ad522, e522, hx522_0, hx522_1, hx522_2, hx522_3, hx522_4⟩ := at_T44 HR0.out x8_1 p522 q522; obtain rfl : ad519 = ad522 := (by injection e522); replace hx522_0 := (HB.out.cell (World.block_lt_of_cell? w _ hx522_0)).trans hx522_0; replace hx522_1 := (HB.out.cell (World.block_lt_of_cell? w _ hx522_1)).trans hx522_1; replace hx522_2 := (HB.out.cell (World.block_lt_of_cell? w _ hx522_2)).trans hx522_2; replace hx522_3 := (HB.out.cell (World.block_lt_of_cell? w _ hx522_3)).trans hx522_3; replace hx522_4 := (HB.out.cell (World.block_lt_of_cell? w _ hx522_4)).trans hx522_4; replace p522 := eq_true p522; replace q522 := eq_true q522))
                  go_roundg kj27
                  case measure => have := HK1.out; have := HJ12.out; have := HJ27.out; omega
                  case rel => exact ⟨(y518), (wrap64 (x8_1 + 1)), (x509000_1), (x509001_1), (x509002_1), (x509003_1), (x509004_1), eq_now, H', ⟨by have := HK1.out; have := HJ12.out; have := HJ27.out; omega⟩, ⟨by (with_reducible repeat (first | apply Kd.R_alloc | apply Kd.R_drewN | apply Kd.R_drew)); exact HO_7.out⟩, ⟨bk_now⟩, ⟨b_now⟩⟩
                ·rw [if_neg c41] at H
                 have c41b0 : (((rd_T44 l0 x8_1).f1) == 10) = false := beq_eq_false_iff_ne.mpr c41
                 have c41b1 : (((rd_T44 l0 x8_1).f1) != 10) = true := bne_iff_ne.mpr c41
                 have H' := Aside0.mk H
                 clear H
                 have p33 : 0 ≤ (x8_1 : Int) := of_decide_eq_true (by first | (with_reducible assumption) | assumption)
                 have q33 : (x8_1 : Int) < ((x7_1.length : Int) : Int) := of_decide_eq_true (by first | (with_reducible assumption) | assumption)
                 obtain ⟨go33, co33, eo33, gb33, gl33, cl33, HG33⟩ := Kd.R_form HO_7.out (by omega)
                 (first | cases eo33 | (injection eo33 with ea_ en_ ec_; (first | subst ea_ | (injection ea_ with ea_; subst ea_)); subst ec_; clear en_))
                 have GB33 := Aside0.mk gb33
                 have GG33 := Aside0.mk HG33
                 clear gb33 gl33 HG33
                 obtain ⟨ce33, hcl33, hM33, hcc33, hfr33⟩ := Kd.R_elem HO_7.out z44 (x8_1 : Int) p33 q33
                 obtain rfl := k44_openM hM33
                 have hx33_0 : wc.cell? ⟨go33, (x8_1 : Int).toNat * 5, none⟩ = some (.int .u8 ((rd_T44 x7_1 x8_1).f0)) := hcc33 0 _ rfl
                 have hx33_1 : wc.cell? ⟨go33, (x8_1 : Int).toNat * 5 + 1, none⟩ = some (.int .u8 ((rd_T44 x7_1 x8_1).f1)) := hcc33 1 _ rfl
                 have hx33_2 : wc.cell? ⟨go33, (x8_1 : Int).toNat * 5 + 2, none⟩ = some (.int .u8 ((rd_T44 x7_1 x8_1).f2)) := hcc33 2 _ rfl
                 have hx33_3 : wc.cell? ⟨go33, (x8_1 : Int).toNat * 5 + 3, none⟩ = some (.int .i16 ((rd_T44 x7_1 x8_1).f3)) := hcc33 3 _ rfl
                 have hx33_4 : wc.cell? ⟨go33, (x8_1 : Int).toNat * 5 + 4, none⟩ = some (.int .i32 ((rd_T44 x7_1 x8_1).f4)) := hcc33 4 _ rfl
                 have hf33_0 : wc.frozen? ⟨go33, (x8_1 : Int).toNat * 5, none⟩ = false := hfr33 0
                 have hf33_1 : wc.frozen? ⟨go33, (x8_1 : Int).toNat * 5 + 1, none⟩ = false := hfr33 1
                 have hf33_2 : wc.frozen? ⟨go33, (x8_1 : Int).toNat * 5 + 2, none⟩ = false := hfr33 2
                 have hf33_3 : wc.frozen? ⟨go33, (x8_1 : Int).toNat * 5 + 3, none⟩ = false := hfr33 3
                 have hf33_4 : wc.frozen? ⟨go33, (x8_1 : Int).toNat * 5 + 4, none⟩ = false := hfr33 4
                 clear hcl33 hcc33 hfr33 hM33
                 replace p33 := eq_true p33
                 replace q33 := eq_true q33
                 have HX50 := Aside0.mk (show Kd.R k44 44 wc w.heap.size (fun k_ => k_ ≠ gb508) (.slice (some ⟨go33, 0, none⟩) x7_1.length co14) x7_1 from (by (with_reducible repeat (first | apply Kd.R_alloc | apply Kd.R_drewN | apply Kd.R_drew)); exact HO_7.out))
                 obtain ⟨ce50, hcl50, hM50, hcc50, hfr50⟩ := Kd.R_elem HX50.out z44 (x8_1 : Int) (of_decide_eq_true (by first | (with_reducible assumption) | assumption)) (by have h_ : (x8_1 : Int) < ((x7_1.length : Int) : Int) := of_decide_eq_true (by first | (with_reducible assumption) | assumption); first | exact h_ | (have e_ := (Kd.R_reads' HO_7.out).1; omega) | simpa using h_)
                 obtain rfl := k44_openM hM50
                 have HP50 := Kd.R_seg HX50.out (x8_1 : Int) (of_decide_eq_true (by first | (with_reducible assumption) | assumption)) (by have h_ : (x8_1 : Int) < ((x7_1.length : Int) : Int) := of_decide_eq_true (by first | (with_reducible assumption) | assumption); first | exact h_ | (have e_ := (Kd.R_reads' HO_7.out).1; omega) | simpa using h_) (seg := [.int .u8 (Int.tmod a1 10)]) (j := 1) hcl50 hcc50 (show 2 ≤ 5 from by decide) (x' := (⟨(rd_T44 x7_1 x8_1).f0, Int.tmod a1 10, (rd_T44 x7_1 x8_1).f2, (rd_T44 x7_1 x8_1).f3, (rd_T44 x7_1 x8_1).f4⟩ : S44)) (k44_mkM _ _ _ (⟨(rd_T44 x7_1 x8_1).f0, Int.tmod a1 10, (rd_T44 x7_1 x8_1).f2, (rd_T44 x7_1 x8_1).f3, (rd_T44 x7_1 x8_1).f4⟩ : S44) ) (fun _ hk => hk)
                 have hx50_1 := hcc50 1 _ rfl
                 (try simp only [show (k44).sz = 5 from rfl, Nat.mul_one, Nat.add_zero] at hx50_1)
                 have hf50_1 := hfr50 1
                 (try simp only [show (k44).sz = 5 from rfl, Nat.mul_one, Nat.add_zero] at hf50_1)
                 clear hcl50 hcc50 hfr50 hM50
                 go_wp2_with (first | ((with_reducible refine gate_store (t := 5) (p := 64) rfl ?_); refine store_event (t := 5) (p := 64) (v := ?vo_w51) (w1 := (wc.setCell ⟨go33, (x8_1 : Int).toNat * 5 + 1, none⟩ (.int .u8 (Int.tmod a1 10)))) ?hg ?ho ?hn ?hr ?_; (case ho => rfl); (case hg => rfl); (case hn => rfl); (case hr => first | (go_simp; done) | (go_simp; rfl)); intro w51 hw; have hg : wc.grownBy w51 (some go33) := (by rw [hw]; exact HP50.2); have hp_ : Kd.R k44 44 w51 w.heap.size (fun k_ => k_ ≠ gb508) (.slice (some ⟨go33, 0, none⟩) x7_1.length co14) y518 := (by rw [hw, Ny518.out]; exact HP50.1); clear HP50; have n0_ := Aside0.mk (hp_); have n1_ := Aside0.mk (blk_grown (g := gb508) (o := .cells #[.int .u8 x509000_1, .int .u8 x509001_1, .int .u8 x509002_1, .int .i16 x509003_1, .int .i32 x509004_1] 44 (0, 0)) bk_now hg (Kd.R_away HO_7.out (fun _ hk => hk))); have n2_ := Aside0.mk ((by rw [hw]; exact below_set (HB.out) GB33.out : Below w.heap.size w w51)); clear HO_7; clear BK508; clear HB; have HO_7 := n0_; have BK508 := n1_; have HB := n2_; clear n0_ n1_ n2_; clear hg hw hp_; have p519 : 0 ≤ (x8_1 : Int) := of_decide_eq_true (by first | (with_reducible assumption) | assumption); have q519 : x8_1 < (l0.length : Int) := of_decide_eq_true (by first | (with_reducible assumption) | assumption); obtain ⟨ad519, e519, hx519_0, hx519_1, hx519_2, hx519_3, hx519_4⟩ := at_T44 HR0.out x8_1 p519 q519; cases e519; replace hx519_0 := (HB.out.cell (World.block_lt_of_cell? w _ hx519_0)).trans hx519_0; replace hx519_1 := (HB.out.cell (World.block_lt_of_cell? w _ hx519_1)).trans hx519_1; replace hx519_2 := (HB.out.cell (World.block_lt_of_cell? w _ hx519_2)).trans hx519_2; replace hx519_3 := (HB.out.cell (World.block_lt_of_cell? w _ hx519_3)).trans hx519_3; replace hx519_4 := (HB.out.cell (World.block_lt_of_cell? w _ hx519_4)).trans hx519_4; replace p519 := eq_true p519; replace q519 := eq_true q519; have p522 : 0 ≤ (x8_1 : Int) := of_decide_eq_true (by first | (with_reducible assumption) | assumption); have q522 : x8_1 < (l0.length : Int) := of_decide_eq_true (by first | (with_reducible assumption) | assumption); obtain ⟨ad522, e522, hx522_0, hx522_1, hx522_2, hx522_3, hx522_4⟩ := at_T44 HR0.out x8_1 p522 q522; obtain rfl : ad519 = ad522 := (by injection e522); replace hx522_0 := (HB.out.cell (World.block_lt_of_cell? w _ hx522_0)).trans hx522_0; replace hx522_1 := (HB.out.cell (World.block_lt_of_cell? w _ hx522_1)).trans hx522_1; replace hx522_2 := (HB.out.cell (World.block_lt_of_cell? w _ hx522_2)).trans hx522_2; replace hx522_3 := (HB.out.cell (World.block_lt_of_cell? w _ hx522_3)).trans hx522_3; replace hx522_4 := (HB.out.cell (World.block_lt_of_cell? w _ hx522_4)).trans hx522_4; replace p522 := eq_true p522; replace q522 := eq_true q522))
                 go_roundg kj27
                 case measure => have := HK1.out; have := HJ12.out; have := HJ27.out; omega
                 case rel => exact ⟨(y518), (wrap64 (x8_1 + 1)), (x509000_1), (x509001_1), (x509002_1), (x509003_1), (x509004_1), eq_now, H', ⟨by have := HK1.out; have := HJ12.out; have := HJ27.out; omega⟩, ⟨by (with_reducible repeat (first | apply Kd.R_alloc | apply Kd.R_drewN | apply Kd.R_drew)); exact HO_7.out⟩, ⟨bk_now⟩, ⟨b_now⟩⟩
              ·rw [if_neg c34] at H
               exact absurd H (by simp)
             ·rw [if_neg c32] at H
              exact absurd H (by simp)
            ·rw [if_neg c31] at H
             exact absurd H (by simp)
           ·replace c30 := Bool.eq_false_iff.mpr c30
            subst c30
            replace H := sh_f H
            have H' := Aside0.mk H
            clear H
            go_wp2
            go_roundg kj27
            case measure => have := HK1.out; have := HJ12.out; have := HJ27.out; omega
            case rel => exact ⟨(x7_1), (wrap64 (x8_1 + 1)), (x509000_1), (x509001_1), (x509002_1), (x509003_1), (x509004_1), eq_now, H', ⟨by have := HK1.out; have := HJ12.out; have := HJ27.out; omega⟩, ⟨by (with_reducible repeat (first | apply Kd.R_alloc | apply Kd.R_drewN | apply Kd.R_drew)); exact HO_7.out⟩, ⟨bk_now⟩, ⟨b_now⟩⟩
     ·rw [if_neg c12] at H
      exact absurd H (by simp)
    ·rw [if_neg c11] at H
     have c11b0 : decide (x8_1 < (x7_1.length : Int)) = false := decide_eq_false c11
     clear c11
     replace H := Option.bind_eq_some_iff.mp H; obtain ⟨⟨t525, t526⟩, A520, H⟩ := H; try dsimp only at H
     have A52 := Aside0.mk A520
     clear A520
     replace H := Option.bind_eq_some_iff.mp H; obtain ⟨⟨t529, t530⟩, A530, H⟩ := H; try dsimp only at H
     have A53 := Aside0.mk A530
     clear A530
     by_cases c54 : t526 = t530
     ·rw [if_pos c54] at H
      have c54b0 : (t526 == t530) = true := beq_iff_eq.mpr c54
      have c54b1 : (t526 != t530) = false := bne_eq_false_iff_eq.mpr c54
      clear c54
      replace H := Option.bind_eq_some_iff.mp H; obtain ⟨t533, A550, H⟩ := H; try dsimp only at H
      have A55 := Aside0.mk A550
      clear A550
      by_cases c56 : t533 = true
      ·subst c56
       replace H := sh_t H
       replace H := Option.bind_eq_some_iff.mp H; obtain ⟨t534, A570, H⟩ := H; try dsimp only at H
       have A57 := Aside0.mk A570
       clear A570
       obtain rfl := Option.some.inj H
       obtain ⟨Ao58, co58, eo58⟩ := Kd.R_slice HO_7.out
       subst eo58
       go_wp2_with (first | ((with_reducible refine gate_callee (f := 16) rfl ?_); refine sh_call (some 92) Tryd.func16 #[.slice A0 l0.length c0] ?_; (with_reducible refine (graph_Order.calls _ _ l0 t525 t526 _ ?side1 ?side2 ?side3 A52.out).mono ?_); (case side1 => repeat (first | exact (Kd.C_below HR0.out HB.out) | (with_reducible refine Kd.C_alloc ?_ _) | (with_reducible refine Kd.C_drewN ?_ _) | (with_reducible refine Kd.C_drew ?_))); (case side2 => exact HC0.out); (case side3 => repeat (first | exact (Kd.C_below HRG0.out HB.out) | (with_reducible refine Kd.C_alloc ?_ _) | (with_reducible refine Kd.C_drewN ?_ _) | (with_reducible refine Kd.C_drew ?_))); rintro e w59 ⟨v527, rfl, ho0, hb⟩; refine ⟨_, rfl, ?_⟩; have HO528 := Aside0.mk (Kd.R_lower ho0 (below_size b_now)); replace HO_7 := Aside0.mk (Kd.R_below (by (with_reducible repeat (first | apply Kd.R_alloc | apply Kd.R_drewN | apply Kd.R_drew)); exact HO_7.out) hb); replace BK508 := sh_k BK508 hb; replace HB := sh_b (w := w) hb; (try clear hb); (try clear hb2); (try clear hk); (try clear hi); (try clear ho0)) | ((with_reducible refine gate_callee (f := 16) rfl ?_); refine sh_call (some 97) Tryd.func16 #[.slice Ao58 x7_1.length co58] ?_; (with_reducible refine (graph_Order.calls _ _ x7_1 t529 t530 _ ?side1 ?side2 ?side3 A53.out).mono ?_); (case side1 => repeat (first | exact (Kd.R_reads' HO_7.out).2.2 | (with_reducible refine Kd.C_alloc ?_ _) | (with_reducible refine Kd.C_drewN ?_ _) | (with_reducible refine Kd.C_drew ?_))); (case side2 => exact (Kd.R_reads' HO_7.out).2.1); (case side3 => repeat (first | exact (Kd.C_below HRG0.out HB.out) | (with_reducible refine Kd.C_alloc ?_ _) | (with_reducible refine Kd.C_drewN ?_ _) | (with_reducible refine Kd.C_drew ?_))); rintro e w60 ⟨v531, rfl, ho0, hb⟩; refine ⟨_, rfl, ?_⟩; have HO532 := Aside0.mk (Kd.R_lower (Kd.R_new' ho0 (Kd.R_lt (by (with_reducible repeat (first | apply Kd.R_alloc | apply Kd.R_drewN | apply Kd.R_drew)); exact HO528.out))) (below_size b_now)); replace HO_7 := Aside0.mk (Kd.R_below (by (with_reducible repeat (first | apply Kd.R_alloc | apply Kd.R_drewN | apply Kd.R_drew)); exact HO_7.out) hb); replace HO528 := Aside0.mk (Kd.R_elder' (by (with_reducible repeat (first | apply Kd.R_alloc | apply Kd.R_drewN | apply Kd.R_drew)); exact HO528.out) (Kd.R_base ho0) hb); replace BK508 := sh_k BK508 hb; replace HB := sh_b (w := w) hb; (try clear hb); (try clear hb2); (try clear hk); (try clear hi); (try clear ho0); obtain ⟨Ao61, co61, eo61⟩ := Kd.R_slice HO528.out; subst eo61; obtain ⟨Ao62, co62, eo62⟩ := Kd.R_slice HO532.out; subst eo62) | (go_at_call 14; (with_reducible refine (stockadelaw05_ints.calls k1 _ _ t525 _ _ t529 true _ ?side1 ?side2 ?side3 ?side4 A55.out).mono ?_); (case side1 => repeat (first | exact (Kd.R_reads' HO528.out).2.2 | (with_reducible refine Kd.C_alloc ?_ _) | (with_reducible refine Kd.C_drewN ?_ _) | (with_reducible refine Kd.C_drew ?_))); (case side2 => exact (Kd.R_reads' HO528.out).2.1); (case side3 => repeat (first | exact (Kd.R_reads' HO532.out).2.2 | (with_reducible refine Kd.C_alloc ?_ _) | (with_reducible refine Kd.C_drewN ?_ _) | (with_reducible refine Kd.C_drew ?_))); (case side4 => exact (Kd.R_reads' HO532.out).2.1); rintro e w' ⟨rfl, ⟨nd, rfl⟩⟩) | (go_at_call 10; (with_reducible refine (stockadelaw05_wakes.calls k1  t534 _ ?side1 (by first | rfl | exact HRT.out) A57.out).mono ?_); (case side1 => repeat (first | exact (Kd.C_below HRG0.out b_now) | (with_reducible refine Kd.C_alloc ?_ _) | (with_reducible refine Kd.C_drewN ?_ _) | (with_reducible refine Kd.C_drew ?_))); rintro e w63 ⟨rfl, hb⟩; replace HO_7 := Aside0.mk (Kd.R_below (by (with_reducible repeat (first | apply Kd.R_alloc | apply Kd.R_drewN | apply Kd.R_drew)); exact HO_7.out) hb); replace HO528 := Aside0.mk (Kd.R_below (by (with_reducible repeat (first | apply Kd.R_alloc | apply Kd.R_drewN | apply Kd.R_drew)); exact HO528.out) hb); replace HO532 := Aside0.mk (Kd.R_below (by (with_reducible repeat (first | apply Kd.R_alloc | apply Kd.R_drewN | apply Kd.R_drew)); exact HO532.out) hb); replace BK508 := sh_k BK508 hb; replace HB := sh_b (w := w) hb; (try clear hb); (try clear hb2); (try clear hk); (try clear hi)))
       go_ret
       exact ⟨ret_now, b_now⟩
      ·replace c56 := Bool.eq_false_iff.mpr c56
       subst c56
       replace H := sh_f H
       obtain rfl := Option.some.inj H
       exact absurd HRT.out (by simp)
     ·rw [if_neg c54] at H
      have c54b0 : (t526 == t530) = false := beq_eq_false_iff_ne.mpr c54
      have c54b1 : (t526 != t530) = true := bne_iff_ne.mpr c54
      obtain rfl := Option.some.inj H
      exact absurd HRT.out (by simp)

end Go.Proofs.YtkjcjlegokdpdaaDoor.P
