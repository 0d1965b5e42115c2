/- Made by this session's driver over the kit's printer: for each Go function a Lean function with the same answers, and a proof that the Go call comes to these answers; no conditions but the ones each theorem names. -/
import Derived.Test.YtondogoepcndiaaDoorPx0
import Derived.Test.YtondogoepcndiaaDoorPx10
import Derived.Test.YtondogoepcndiaaDoorPx21
import Derived.Test.YtondogoepcndiaaDoorPx27
namespace Go.Proofs.YtondogoepcndiaaDoor.P
open Go.RowKit Go.Proofs.YtondogoepcndiaaDoorW.PrintWords Go.Proofs.YtondogoepcndiaaDoorW.PrintLast Go.Proofs.YtondogoepcndiaaDoorW.PrintMore
attribute [local go_sem] max2_int min2_int max_two min_two max_three min_three max_four min_four   -- for this text's walks alone
set_option linter.unusedVariables false
set_option linter.unusedSimpArgs false

/-! ### stockadelaw03_AsmPrints: function 3 -/
def stockadelaw03_AsmPrints.f (k : Nat) (l0 : List (S37)) : Option (Bool) := if (l0.length : Int) > 1000 then ((stockadelaw03_wakes.f k).bind fun t503 => (some t503)) else (if ([] : List (S37)).length + l0.length < 11728124029610 then ((some (([] : List (S37)) ++ l0 : List (S37))).bind fun y504 => ((asm_Print.f k y504).bind fun bt507 => ((stockaderef03_Print.f k l0).bind fun bt509 => (if bt507.1.toList = bt509.1.toList then (if bt507.2 = bt509.2 then ((stockadelaw03_same.f k y504 l0).bind fun t511 => (if t511 = true then ((stockadelaw03_wakes.f k).bind fun t512 => (some t512)) else (some false))) else (some false)) else (some false))))) else (none))
theorem stockadelaw03_AsmPrints.mono : ∀ a0 k, LeO (stockadelaw03_AsmPrints.f k a0) (stockadelaw03_AsmPrints.f (k + 1) a0) := by
 intro a0 k
 unfold stockadelaw03_AsmPrints.f
 repeat' first
   | (with_reducible exact asm_Print.mono _ _)
   | (with_reducible exact stockadelaw03_same.mono _ _ _)
   | (with_reducible exact stockadelaw03_wakes.mono _)
   | (with_reducible exact stockaderef03_Print.mono _ _)
   | (with_reducible exact LeO.refl _)
   | (with_reducible exact LeO.none _)
   | (with_reducible refine LeO.ite ?_ ?_)
   | (with_reducible refine LeO.bind ?_ (fun _ => ?_))
   | refine LeO.ite ?_ ?_
   | refine LeO.bind ?_ (fun _ => ?_)
set_option maxHeartbeats 8000000 in
set_option maxRecDepth 100000 in
theorem stockadelaw03_AsmPrints.calls (k : Nat) (A0 : Option Addr) (c0 : Nat) (l0 : List (S37)) (r : Bool) (w : World) (hr0 : Kd.C k37 w A0 l0.length l0) (hc0 : l0.length ≤ c0) (hrG0 : Kd.C Kd.string w (some ⟨0, 0, none⟩) gl0.length gl0) (hrG1 : Kd.C Kd.string w (some ⟨1, 0, none⟩) gl1.length gl1) (hrG2 : Kd.C (Kd.int .i64) w (some ⟨2, 0, none⟩) gl2.length gl2) (hrG3 : Kd.C kGF w (some ⟨3, 0, none⟩) gl3.length gl3) (hr_ : r = true) (h : stockadelaw03_AsmPrints.f k l0 = some r) :
  Calls Tryd.prog 3 #[.slice A0 l0.length c0] w fun e w' => e = .returned (.bool r) ∧ Below w.heap.size w w' := by
 have HR0 := Aside0.mk hr0
 have HC0 := Aside0.mk hc0
 clear hr0 hc0
 have HRG0 := Aside0.mk hrG0
 clear hrG0
 have HRG1 := Aside0.mk hrG1
 clear hrG1
 have HRG2 := Aside0.mk hrG2
 clear hrG2
 have HRG3 := Aside0.mk hrG3
 clear hrG3
 have HRT := Aside0.mk hr_
 clear hr_
 have HB := Aside0.mk (Below.refl w.heap.size w)
 have H : (if (l0.length : Int) > 1000 then ((stockadelaw03_wakes.f k).bind fun t503 => (some t503)) else (if ([] : List (S37)).length + l0.length < 11728124029610 then ((some (([] : List (S37)) ++ l0 : List (S37))).bind fun y504 => ((asm_Print.f k y504).bind fun bt507 => ((stockaderef03_Print.f k l0).bind fun bt509 => (if bt507.1.toList = bt509.1.toList then (if bt507.2 = bt509.2 then ((stockadelaw03_same.f k y504 l0).bind fun t511 => (if t511 = true then ((stockadelaw03_wakes.f k).bind fun t512 => (some t512)) else (some false))) else (some false)) else (some false))))) else (none))) = some r := h
 clear h
 by_cases c2 : (l0.length : Int) > 1000
 ·rw [if_pos c2] at H
  have c2b0 : decide (1000 < (l0.length : Int)) = true := decide_eq_true c2
  have c2b1 : decide (1000 < l0.length) = true := decide_eq_true (by omega)
  clear c2
  obtain ⟨t503, A3, H⟩ := bs_ H; try dsimp only at H
  obtain rfl := Option.some.inj H
  go_enter Tryd.func3, Tryd.ntmps3
  go_wp2_with (first | ((with_reducible refine gate_callee (f := 8) rfl ?_); refine sh_call (some 11) Tryd.func8 #[] ?_; (with_reducible refine (stockadelaw03_wakes.calls k  t503 _ ?side1 ?side2 ?side3 ?side4 (by first | rfl | exact HRT.out) A3.out).mono ?_); (case side1 => repeat (first | exact HRG0.out | (with_reducible refine Kd.C_alloc ?_ _) | (with_reducible refine Kd.C_drewN ?_ _) | (with_reducible refine Kd.C_drew ?_))); (case side2 => repeat (first | exact HRG1.out | (with_reducible refine Kd.C_alloc ?_ _) | (with_reducible refine Kd.C_drewN ?_ _) | (with_reducible refine Kd.C_drew ?_))); (case side3 => repeat (first | exact HRG2.out | (with_reducible refine Kd.C_alloc ?_ _) | (with_reducible refine Kd.C_drewN ?_ _) | (with_reducible refine Kd.C_drew ?_))); (case side4 => repeat (first | exact HRG3.out | (with_reducible refine Kd.C_alloc ?_ _) | (with_reducible refine Kd.C_drewN ?_ _) | (with_reducible refine Kd.C_drew ?_))); rintro e w4 ⟨rfl, hb⟩; refine ⟨_, rfl, ?_⟩; replace HB := sh_b (w := w) hb; (try clear hb); (try clear hb2); (try clear hk); (try clear hi)))
  go_ret
  exact ⟨ret_now, b_now⟩
 ·rw [if_neg c2] at H
  have c2b0 : decide (1000 < (l0.length : Int)) = false := decide_eq_false c2
  have c2b1 : decide (1000 < l0.length) = false := decide_eq_false (by omega)
  clear c2
  by_cases c5 : ([] : List (S37)).length + l0.length < 11728124029610
  ·rw [if_pos c5] at H
   have LMc5 := Aside0.mk c5
   clear c5
   obtain ⟨y504, hy504⟩ : ∃ y_ : List (S37), y_ = (([] : List (S37)) ++ l0) := ⟨_, rfl⟩
   replace H : ((asm_Print.f k y504).bind fun bt507 => ((stockaderef03_Print.f k l0).bind fun bt509 => (if bt507.1.toList = bt509.1.toList then (if bt507.2 = bt509.2 then ((stockadelaw03_same.f k y504 l0).bind fun t511 => (if t511 = true then ((stockadelaw03_wakes.f k).bind fun t512 => (some t512)) else (some false))) else (some false)) else (some false)))) = some r := by first | (rw [hy504]; with_reducible exact H) | (have H2_ := (Option.bind_some _ _).symm.trans H; rw [hy504]; with_reducible exact H2_) | (have H2_ := (Option.bind_some _ _).symm.trans H; with_reducible exact H2_) | with_reducible exact H | (rw [hy504]; exact H) | exact H
   have Ny504 := Aside0.mk hy504
   clear hy504
   obtain ⟨⟨t507, t508⟩, A6, H⟩ := bs_ H; try dsimp only at H
   obtain ⟨⟨t509, t510⟩, A7, H⟩ := bs_ H; try dsimp only at H
   by_cases c8 : t507.toList = t509.toList
   ·rw [if_pos c8] at H
    obtain ⟨c8b0, c8b1⟩ := eqT c8
    clear c8
    by_cases c9 : t508 = t510
    ·rw [if_pos c9] at H
     obtain ⟨c9b0, c9b1⟩ := eqT c9
     clear c9
     obtain ⟨t511, A10, H⟩ := bs_ H; try dsimp only at H
     by_cases c11 : t511 = true
     ·subst c11
      replace H := sh_t H
      obtain ⟨t512, A12, H⟩ := bs_ H; try dsimp only at H
      obtain rfl := Option.some.inj H
      go_enter Tryd.func3, Tryd.ntmps3
      go_wp2_with (first | ((with_reducible refine gate_builtin (b := .append) (xs := #[.const (.slice none 0 0), .tmp 12]) rfl ?_); at_builtin; refine Kd.R_append_rows k37 (w0 := w) w.heap.size rfl (.const (.slice none 0 0)) (.tmp 12) 22 37 (.agg #[(.int .u8 0), (.int .u8 0), (.int .u8 0), (.int .i16 0), (.int .i32 0)]) 12 rfl Tryd.underlying22 info37 rfl (by decide) (by omega) (.slice none 0 0) ([] : List (S37)) l0 _ _ _ (fun _ => True) (fun _ => False) rfl rfl ?aO ?aR (fun _ _ h => h) (fun _ h => h.elim) ?aF ?aB ?aS ?aL ?_; (case aR => repeat (first | exact HR0.out | (with_reducible refine Kd.C_alloc ?_ _) | (with_reducible refine Kd.C_drewN ?_ _) | (with_reducible refine Kd.C_drew ?_))); (case aB => exact b_now); (case aF => exact (fun _ _ => trivial)); (case aO => exact ((Kd.R_nil _ _ _ _ (fun _ => True)))); (case aS => exact (below_size b_now)); (case aL => have := LMc5.out; omega); intro v505 w13 ho hb hg hat; rw [← Ny504.out] at ho; have HO506 := Aside0.mk (ho); replace HB := Aside0.mk (hb); clear ho hb hg hat; obtain ⟨Ao14, co14, eo14⟩ := Kd.R_slice HO506.out; subst eo14) | ((with_reducible refine gate_callee (f := 9) rfl ?_); refine sh_call (some 16) Tryd.func9 #[.slice Ao14 y504.length co14] ?_; (with_reducible refine (asm_Print.calls k _ _ y504 t507 t508 _ ?side1 ?side2 ?side3 ?side4 ?side5 ?side6 A6.out).mono ?_); (case side1 => repeat (first | exact (Kd.R_reads' HO506.out).2.2 | (with_reducible refine Kd.C_alloc ?_ _) | (with_reducible refine Kd.C_drewN ?_ _) | (with_reducible refine Kd.C_drew ?_))); (case side2 => exact (Kd.R_reads' HO506.out).2.1); (case side3 => repeat (first | exact (Kd.C_below HRG0.out HB.out) | (with_reducible refine Kd.C_alloc ?_ _) | (with_reducible refine Kd.C_drewN ?_ _) | (with_reducible refine Kd.C_drew ?_))); (case side4 => repeat (first | exact (Kd.C_below HRG1.out HB.out) | (with_reducible refine Kd.C_alloc ?_ _) | (with_reducible refine Kd.C_drewN ?_ _) | (with_reducible refine Kd.C_drew ?_))); (case side5 => repeat (first | exact (Kd.C_below HRG2.out HB.out) | (with_reducible refine Kd.C_alloc ?_ _) | (with_reducible refine Kd.C_drewN ?_ _) | (with_reducible refine Kd.C_drew ?_))); (case side6 => repeat (first | exact (Kd.C_below HRG3.out HB.out) | (with_reducible refine Kd.C_alloc ?_ _) | (with_reducible refine Kd.C_drewN ?_ _) | (with_reducible refine Kd.C_drew ?_))); rintro e w15 ⟨rfl, hb⟩; refine ⟨_, rfl, ?_⟩; replace HO506 := Aside0.mk (Kd.R_below (by (with_reducible repeat (first | apply Kd.R_alloc | apply Kd.R_drewN | apply Kd.R_drew)); exact HO506.out) hb); replace HB := sh_b (w := w) hb; (try clear hb); (try clear hb2); (try clear hk); (try clear hi)) | ((with_reducible refine gate_callee (f := 10) rfl ?_); refine sh_call (some 21) Tryd.func10 #[.slice A0 l0.length c0] ?_; (with_reducible refine (stockaderef03_Print.calls k _ _ l0 t509 t510 _ ?side1 ?side2 A7.out).mono ?_); (case side1 => repeat (first | exact (Kd.C_below HR0.out HB.out) | (with_reducible refine Kd.C_alloc ?_ _) | (with_reducible refine Kd.C_drewN ?_ _) | (with_reducible refine Kd.C_drew ?_))); (case side2 => exact HC0.out); rintro e w16 ⟨rfl, hb⟩; refine ⟨_, rfl, ?_⟩; replace HO506 := Aside0.mk (Kd.R_below (by (with_reducible repeat (first | apply Kd.R_alloc | apply Kd.R_drewN | apply Kd.R_drew)); exact HO506.out) hb); replace HB := sh_b (w := w) hb; (try clear hb); (try clear hb2); (try clear hk); (try clear hi)) | (go_at_call 11; (with_reducible refine (stockadelaw03_same.calls k _ _ y504 _ _ l0 true _ ?side1 ?side2 ?side3 ?side4 A10.out).mono ?_); (case side1 => repeat (first | exact (Kd.R_reads' HO506.out).2.2 | (with_reducible refine Kd.C_alloc ?_ _) | (with_reducible refine Kd.C_drewN ?_ _) | (with_reducible refine Kd.C_drew ?_))); (case side2 => exact (Kd.R_reads' HO506.out).2.1); (case side3 => repeat (first | exact (Kd.C_below HR0.out HB.out) | (with_reducible refine Kd.C_alloc ?_ _) | (with_reducible refine Kd.C_drewN ?_ _) | (with_reducible refine Kd.C_drew ?_))); (case side4 => exact HC0.out); rintro e w' ⟨rfl, ⟨nd, rfl⟩⟩) | (go_at_call 8; (with_reducible refine (stockadelaw03_wakes.calls k  t512 _ ?side1 ?side2 ?side3 ?side4 (by first | rfl | exact HRT.out) A12.out).mono ?_); (case side1 => repeat (first | exact (Kd.C_below HRG0.out b_now) | (with_reducible refine Kd.C_alloc ?_ _) | (with_reducible refine Kd.C_drewN ?_ _) | (with_reducible refine Kd.C_drew ?_))); (case side2 => repeat (first | exact (Kd.C_below HRG1.out b_now) | (with_reducible refine Kd.C_alloc ?_ _) | (with_reducible refine Kd.C_drewN ?_ _) | (with_reducible refine Kd.C_drew ?_))); (case side3 => repeat (first | exact (Kd.C_below HRG2.out b_now) | (with_reducible refine Kd.C_alloc ?_ _) | (with_reducible refine Kd.C_drewN ?_ _) | (with_reducible refine Kd.C_drew ?_))); (case side4 => repeat (first | exact (Kd.C_below HRG3.out b_now) | (with_reducible refine Kd.C_alloc ?_ _) | (with_reducible refine Kd.C_drewN ?_ _) | (with_reducible refine Kd.C_drew ?_))); rintro e w17 ⟨rfl, hb⟩; replace HO506 := Aside0.mk (Kd.R_below (by (with_reducible repeat (first | apply Kd.R_alloc | apply Kd.R_drewN | apply Kd.R_drew)); exact HO506.out) hb); replace HB := sh_b (w := w) hb; (try clear hb); (try clear hb2); (try clear hk); (try clear hi)))
      go_ret
      exact ⟨ret_now, b_now⟩
     ·replace c11 := Bool.eq_false_iff.mpr c11
      subst c11
      replace H := sh_f H
      obtain rfl := Option.some.inj H
      exact absurd HRT.out (by simp)
    ·rw [if_neg c9] at H
     obtain ⟨c9b0, c9b1⟩ := eqF c9
     obtain rfl := Option.some.inj H
     exact absurd HRT.out (by simp)
   ·rw [if_neg c8] at H
    obtain ⟨c8b0, c8b1⟩ := eqF c8
    obtain rfl := Option.some.inj H
    exact absurd HRT.out (by simp)
  ·rw [if_neg c5] at H
   exact absurd H (by simp)

/-! ### stockaderef03_count: function 58 -/
mutual
def stockaderef03_count.l0 : Nat → ByteArray → Int → Int → Int → Int → Option (Int × Int × Bool)
 | 0, _, _, _, _, _ => none
 | k + 1, x0, x1, x2, x9, x10 => if x1 < (x0.size : Int) then (if 0 ≤ x1 then (if (bt x0 x1) ≥ 48 then (stockaderef03_count.j1 k x0 x1 x2 x9 x10 (decide ((bt x0 x1) ≤ 57))) else (stockaderef03_count.j1 k x0 x1 x2 x9 x10 false)) else (none)) else (stockaderef03_count.j1 k x0 x1 x2 x9 x10 false)
def stockaderef03_count.j1 : Nat → ByteArray → Int → Int → Int → Int → Bool → Option (Int × Int × Bool)
 | 0, _, _, _, _, _, _ => none
 | k + 1, x0, x1, x2, x9, x10, x28 => if x28 = true then (if 0 ≤ x1 then (if x1 < (x0.size : Int) then (if x9 > (IntKind.u64.wrap (Int.tdiv (IntKind.u64.wrap (x2 - (((bt x0 x1) - 48) % 256))) 10)) then (some (0, x1, false)) else (stockaderef03_count.l0 k x0 (wrap64 (x1 + 1)) x2 (IntKind.u64.wrap ((IntKind.u64.wrap (10 * x9)) + (((bt x0 x1) - 48) % 256))) x10)) else (none)) else (none)) else (if x1 > x10 then (if x1 = (wrap64 (x10 + 1)) then (some (x9, x1, true)) else (if 0 ≤ x10 then (if x10 < (x0.size : Int) then (some (x9, x1, ((bt x0 x10) != 48))) else (none)) else (none))) else (some (x9, x1, false)))
end
def stockaderef03_count.f (k : Nat) (a0 : ByteArray) (a1 : Int) (a2 : Int) : Option (Int × Int × Bool) := stockaderef03_count.l0 k a0 a1 a2 0 a1
theorem stockaderef03_count.mono_l : ∀ k, (∀ y0 y1 y2 y3 y4, LeO (stockaderef03_count.l0 k y0 y1 y2 y3 y4) (stockaderef03_count.l0 (k + 1) y0 y1 y2 y3 y4)) ∧ (∀ y0 y1 y2 y3 y4 y5, LeO (stockaderef03_count.j1 k y0 y1 y2 y3 y4 y5) (stockaderef03_count.j1 (k + 1) y0 y1 y2 y3 y4 y5))
 | 0 => ⟨fun _ _ _ _ _ r h => by simp [stockaderef03_count.l0] at h, fun _ _ _ _ _ _ r h => by simp [stockaderef03_count.j1] at h⟩
 | k + 1 => by
  obtain ⟨ih0, ih1⟩ := stockaderef03_count.mono_l k
  refine ⟨?_, ?_⟩
  ·intro y0 y1 y2 y3 y4
   unfold stockaderef03_count.l0
   repeat' first
   | (with_reducible exact ih0 _ _ _ _ _)
   | (with_reducible exact ih1 _ _ _ _ _ _)
   | (with_reducible exact LeO.refl _)
   | (with_reducible exact LeO.none _)
   | (with_reducible refine LeO.ite ?_ ?_)
   | (with_reducible refine LeO.bind ?_ (fun _ => ?_))
   | refine LeO.ite ?_ ?_
   | refine LeO.bind ?_ (fun _ => ?_)
  ·intro y0 y1 y2 y3 y4 y5
   unfold stockaderef03_count.j1
   repeat' first
   | (with_reducible exact ih0 _ _ _ _ _)
   | (with_reducible exact ih1 _ _ _ _ _ _)
   | (with_reducible exact LeO.refl _)
   | (with_reducible exact LeO.none _)
   | (with_reducible refine LeO.ite ?_ ?_)
   | (with_reducible refine LeO.bind ?_ (fun _ => ?_))
   | refine LeO.ite ?_ ?_
   | refine LeO.bind ?_ (fun _ => ?_)
theorem stockaderef03_count.mono : ∀ a0 a1 a2 k, LeO (stockaderef03_count.f k a0 a1 a2) (stockaderef03_count.f (k + 1) a0 a1 a2) := by
 intro a0 a1 a2 k
 obtain ⟨ih0, ih1⟩ := stockaderef03_count.mono_l k
 unfold stockaderef03_count.f
 repeat' first
   | (with_reducible exact ih0 _ _ _ _ _)
   | (with_reducible exact ih1 _ _ _ _ _ _)
   | (with_reducible exact LeO.refl _)
   | (with_reducible exact LeO.none _)
   | (with_reducible refine LeO.ite ?_ ?_)
   | (with_reducible refine LeO.bind ?_ (fun _ => ?_))
   | refine LeO.ite ?_ ?_
   | refine LeO.bind ?_ (fun _ => ?_)
set_option maxHeartbeats 8000000 in
set_option maxRecDepth 100000 in
theorem stockaderef03_count.calls (k : Nat) (a0 : ByteArray) (a1 : Int) (a2 : Int) (r1 : Int) (r2 : Int) (r3 : Bool) (w : World) (h : stockaderef03_count.f k a0 a1 a2 = some (r1, r2, r3)) :
  Calls Tryd.prog 58 #[.string a0, .int .i64 a1, .int .u64 a2] w fun e w' => e = .returned (.tuple #[.int .u64 r1, .int .i64 r2, .bool r3]) ∧ Drawn0 w w' := by
 have H : (stockaderef03_count.l0 k a0 a1 a2 0 a1) = some (r1, r2, r3) := h
 clear h
 have H' := Aside0.mk H
 clear H
 go_enter Tryd.func58, Tryd.ntmps58
 go_wp2
 repeat (go_quiet (fail); try go_wp2)
 go_loopg [1, 9] k (fun kq v1 v9 w' => ∃ (x1_1 : Int) (x9_1 : Int), v1 = .int .i64 x1_1 ∧ v9 = .int .u64 x9_1 ∧ Aside0 (stockaderef03_count.l0 kq a0 x1_1 a2 x9_1 a1 = some (r1, r2, r3)) ∧ Aside0 (kq ≤ k) ∧ Drawn0 w w')
 case atStart => exact ⟨(a1), (0), eq_now, eq_now, H', ⟨Nat.le_refl _⟩, by repeat (first | exact Drawn0.refl _ | apply Drawn0.step)⟩
 case round =>
  clear H'
  try clear p2
  obtain ⟨x1_1, x9_1, rfl, rfl, HA, HK1, ⟨m1, rfl⟩⟩ := hrel
  cases gk with
  | zero => exact absurd HA.out (by simp [stockaderef03_count.l0])
  | succ k1 =>
   have H := HA.out
   clear HA
   simp only [stockaderef03_count.l0] at H
   have HC4 := Aside0.mk H
   clear H
   go_upto_region 3 with (fail)
   repeat (go_quiet (fail); go_upto_region 3 with (fail))
   go_cut [28] (fun v28 wc => ∃ (kq : Nat) (x28_3 : Bool), v28 = .bool x28_3 ∧ Aside0 (stockaderef03_count.j1 kq a0 x1_1 a2 x9_1 a1 x28_3 = some (r1, r2, r3)) ∧ Aside0 (kq ≤ k1) ∧ Drawn0 w wc)
   case first =>
    have H := HC4.out
    clear HC4
    by_cases c5 : x1_1 < (a0.size : Int)
    ·rw [if_pos c5] at H
     have c5b0 : decide (x1_1 < (a0.size : Int)) = true := decide_eq_true c5
     clear c5
     (first | rw [c5b0] | (simp only [i64_w, i32_w]; rw [c5b0]) | skip)
     by_cases c6 : 0 ≤ x1_1
     ·rw [if_pos c6] at H
      have c6b0 : decide (0 ≤ x1_1) = true := decide_eq_true c6
      clear c6
      by_cases c8 : (bt a0 x1_1) ≥ 48
      ·rw [if_pos c8] at H
       have c8b0 : decide (48 ≤ (bt a0 x1_1)) = true := decide_eq_true c8
       clear c8
       have H' := Aside0.mk H
       clear H
       have p7 : 0 ≤ (x1_1 : Int) := od_
       have q7 : x1_1 < (a0.size : Int) := od_
       have hx7 := bt_at a0 x1_1
       replace p7 := eq_true p7
       replace q7 := eq_true q7
       have p9 : 0 ≤ (x1_1 : Int) := od_
       have q9 : x1_1 < (a0.size : Int) := od_
       have hx9 := bt_at a0 x1_1
       replace p9 := eq_true p9
       replace q9 := eq_true q9
       go_wp2
       repeat (go_quiet (fail); try go_wp2)
       go_meet
       case rel => exact ⟨_, (decide ((bt a0 x1_1) ≤ 57)), eq_now, H', ⟨by have := HK1.out; first | omega | exact Nat.le_refl _⟩, by repeat (first | exact Drawn0.refl _ | apply Drawn0.step)⟩
      ·rw [if_neg c8] at H
       have c8b0 : decide (48 ≤ (bt a0 x1_1)) = false := decide_eq_false c8
       clear c8
       have H' := Aside0.mk H
       clear H
       have p7 : 0 ≤ (x1_1 : Int) := od_
       have q7 : x1_1 < (a0.size : Int) := od_
       have hx7 := bt_at a0 x1_1
       replace p7 := eq_true p7
       replace q7 := eq_true q7
       go_wp2
       repeat (go_quiet (fail); try go_wp2)
       go_meet
       case rel => exact ⟨_, (false), eq_now, H', ⟨by have := HK1.out; first | omega | exact Nat.le_refl _⟩, by repeat (first | exact Drawn0.refl _ | apply Drawn0.step)⟩
     ·rw [if_neg c6] at H
      exact absurd H (by simp)
    ·rw [if_neg c5] at H
     have c5b0 : decide (x1_1 < (a0.size : Int)) = false := decide_eq_false c5
     clear c5
     (first | rw [c5b0] | (simp only [i64_w, i32_w]; rw [c5b0]) | skip)
     have H' := Aside0.mk H
     clear H
     go_wp2
     repeat (go_quiet (fail); try go_wp2)
     go_meet
     case rel => exact ⟨_, (false), eq_now, H', ⟨by have := HK1.out; first | omega | exact Nat.le_refl _⟩, by repeat (first | exact Drawn0.refl _ | apply Drawn0.step)⟩
   case rest =>
    clear HC4
    try clear p2
    try clear c5
    try clear c5b0
    try clear c6
    try clear c6b0
    try clear p7
    try clear q7
    try clear hx7
    try clear c8
    try clear c8b0
    try clear p9
    try clear q9
    try clear hx9
    try clear p2
    try clear p7
    try clear p9
    try clear q7
    try clear q9
    obtain ⟨kq, x28_3, rfl, HA, HJ3, ⟨mc3, rfl⟩⟩ := hcut
    cases kq with
    | zero => exact absurd HA.out (by simp [stockaderef03_count.j1])
    | succ kj3 =>
     have H := HA.out
     clear HA
     simp only [stockaderef03_count.j1] at H
     by_cases c10 : x28_3 = true
     ·subst c10
      replace H := sh_t H
      by_cases c11 : 0 ≤ x1_1
      ·rw [if_pos c11] at H
       have c11b0 : decide (0 ≤ x1_1) = true := decide_eq_true c11
       clear c11
       by_cases c12 : x1_1 < (a0.size : Int)
       ·rw [if_pos c12] at H
        have c12b0 : decide (x1_1 < (a0.size : Int)) = true := decide_eq_true c12
        clear c12
        by_cases c14 : x9_1 > (IntKind.u64.wrap (Int.tdiv (IntKind.u64.wrap (a2 - (((bt a0 x1_1) - 48) % 256))) 10))
        ·rw [if_pos c14] at H
         have c14b0 : decide ((IntKind.u64.wrap (Int.tdiv (IntKind.u64.wrap (a2 - (((bt a0 x1_1) - 48) % 256))) 10)) < x9_1) = true := decide_eq_true c14
         clear c14
         obtain ⟨rfl, rfl, rfl⟩ := pi3 H
         have p13 : 0 ≤ (x1_1 : Int) := od_
         have q13 : x1_1 < (a0.size : Int) := od_
         have hx13 := bt_at a0 x1_1
         replace p13 := eq_true p13
         replace q13 := eq_true q13
         go_wp2
         repeat (go_quiet (fail); try go_wp2)
         go_ret3
         exact ⟨by first | rfl | (simp; done) | (simp [*]; done), by repeat (first | exact Drawn0.refl _ | apply Drawn0.step)⟩
        ·rw [if_neg c14] at H
         have c14b0 : decide ((IntKind.u64.wrap (Int.tdiv (IntKind.u64.wrap (a2 - (((bt a0 x1_1) - 48) % 256))) 10)) < x9_1) = false := decide_eq_false c14
         clear c14
         have H' := Aside0.mk H
         clear H
         have p13 : 0 ≤ (x1_1 : Int) := od_
         have q13 : x1_1 < (a0.size : Int) := od_
         have hx13 := bt_at a0 x1_1
         replace p13 := eq_true p13
         replace q13 := eq_true q13
         go_wp2
         repeat (go_quiet (fail); try go_wp2)
         go_roundg kj3
         case measure => have := HK1.out; have := HJ3.out; omega
         case rel => exact ⟨(wrap64 (x1_1 + 1)), (IntKind.u64.wrap ((IntKind.u64.wrap (10 * x9_1)) + (((bt a0 x1_1) - 48) % 256))), eq_now, eq_now, H', ⟨by have := HK1.out; have := HJ3.out; omega⟩, by repeat (first | exact Drawn0.refl _ | apply Drawn0.step)⟩
       ·rw [if_neg c12] at H
        exact absurd H (by simp)
      ·rw [if_neg c11] at H
       exact absurd H (by simp)
     ·replace c10 := Bool.eq_false_iff.mpr c10
      subst c10
      replace H := sh_f H
      by_cases c15 : x1_1 > a1
      ·rw [if_pos c15] at H
       have c15b0 : decide (a1 < x1_1) = true := decide_eq_true c15
       clear c15
       by_cases c16 : x1_1 = (wrap64 (a1 + 1))
       ·rw [if_pos c16] at H
        obtain ⟨c16b0, c16b1⟩ := eqT c16
        clear c16
        obtain ⟨rfl, rfl, rfl⟩ := pi3 H
        go_wp2
        repeat (go_quiet (fail); try go_wp2)
        go_ret3
        exact ⟨by first | rfl | (simp; done) | (simp [*]; done), by repeat (first | exact Drawn0.refl _ | apply Drawn0.step)⟩
       ·rw [if_neg c16] at H
        obtain ⟨c16b0, c16b1⟩ := eqF c16
        by_cases c17 : 0 ≤ a1
        ·rw [if_pos c17] at H
         have c17b0 : decide (0 ≤ a1) = true := decide_eq_true c17
         clear c17
         by_cases c18 : a1 < (a0.size : Int)
         ·rw [if_pos c18] at H
          have c18b0 : decide (a1 < (a0.size : Int)) = true := decide_eq_true c18
          clear c18
          obtain ⟨rfl, rfl, rfl⟩ := pi3 H
          have p19 : 0 ≤ (a1 : Int) := od_
          have q19 : a1 < (a0.size : Int) := od_
          have hx19 := bt_at a0 a1
          replace p19 := eq_true p19
          replace q19 := eq_true q19
          go_wp2
          repeat (go_quiet (fail); try go_wp2)
          go_ret3
          exact ⟨by first | rfl | (simp; done) | (simp [*]; done), by repeat (first | exact Drawn0.refl _ | apply Drawn0.step)⟩
         ·rw [if_neg c18] at H
          exact absurd H (by simp)
        ·rw [if_neg c17] at H
         exact absurd H (by simp)
      ·rw [if_neg c15] at H
       have c15b0 : decide (a1 < x1_1) = false := decide_eq_false c15
       clear c15
       obtain ⟨rfl, rfl, rfl⟩ := pi3 H
       go_wp2
       repeat (go_quiet (fail); try go_wp2)
       go_ret3
       exact ⟨by first | rfl | (simp; done) | (simp [*]; done), by repeat (first | exact Drawn0.refl _ | apply Drawn0.step)⟩

end Go.Proofs.YtondogoepcndiaaDoor.P
