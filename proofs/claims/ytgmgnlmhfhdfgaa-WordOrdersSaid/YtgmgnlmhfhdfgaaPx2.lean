/- Made by this session's driver over the kit's printer: for each Go function a Lean function with the same answers, and a proof that the Go call comes to these answers; no conditions but the ones each theorem names. -/
import Derived.Test.YtgmgnlmhfhdfgaaPx0
import Derived.Test.YtgmgnlmhfhdfgaaPx1
namespace Go.Proofs.Ytgmgnlmhfhdfgaa.P
open Go.RowKit Go.Proofs.YtgmgnlmhfhdfgaaW.PrintWords Go.Proofs.YtgmgnlmhfhdfgaaW.PrintLast Go.Proofs.YtgmgnlmhfhdfgaaW.PrintMore
attribute [local go_sem] max2_int min2_int max_two min_two max_three min_three max_four min_four   -- for this text's walks alone
set_option linter.unusedVariables false
set_option linter.unusedSimpArgs false

/-! ### stockaderef01_Alu: function 14 -/
mutual
def stockaderef01_Alu.j0 : Nat → Int → Bool → Int → Int → Bool → Option (Int × Int)
 | 0, _, _, _, _, _ => none
 | k + 1, x0, x1, x2, x3, x22 => if x22 = true then (some (0, 20)) else ((stockaderef01_Fit.f x1 x2).bind fun t136 => ((stockaderef01_Fit.f x1 x3).bind fun t137 => ((stockaderef01_Size.f x1).bind fun t138 => (if t138 = 0 then (none) else (if x0 = 0 then ((stockaderef01_Fit.f x1 (IntKind.u64.wrap (t136 + t137))).bind fun t139 => (some (t139, 0))) else (if x0 = 1 then ((stockaderef01_Fit.f x1 (IntKind.u64.wrap (t136 - t137))).bind fun t140 => (some (t140, 0))) else (if x0 = 2 then ((stockaderef01_Fit.f x1 (IntKind.u64.wrap (t136 * t137))).bind fun t141 => (some (t141, 0))) else (if x0 = 3 then (if t137 > 0 then (if t137 = 0 then (none) else ((stockaderef01_Fit.f x1 (IntKind.u64.wrap (Int.tdiv t136 t137))).bind fun t142 => (some (t142, 0)))) else ((stockaderef01_Fit.f x1 0).bind fun t143 => (some (t143, 0)))) else (if x0 = 4 then ((stockaderef01_Fit.f x1 (Go.bits .or .u64 t136 t137)).bind fun t144 => (some (t144, 0))) else (if x0 = 5 then ((stockaderef01_Fit.f x1 (Go.bits .and .u64 t136 t137)).bind fun t145 => (some (t145, 0))) else (if x0 = 6 then (if 0 ≤ (Int.tmod t137 t138) then ((stockaderef01_Fit.f x1 (shl .u64 t136 (Int.tmod t137 t138))).bind fun t146 => (some (t146, 0))) else (none)) else (if x0 = 7 then (if 0 ≤ (Int.tmod t137 t138) then ((stockaderef01_Fit.f x1 (shr .u64 t136 (Int.tmod t137 t138))).bind fun t147 => (some (t147, 0))) else (none)) else (if x0 = 8 then ((stockaderef01_Fit.f x1 (IntKind.u64.wrap (-t136))).bind fun t148 => (some (t148, 0))) else (if x0 = 9 then (if t137 > 0 then (if t137 = 0 then (none) else ((stockaderef01_Fit.f x1 (Int.tmod t136 t137)).bind fun t149 => (some (t149, 0)))) else ((stockaderef01_Fit.f x1 t136).bind fun t150 => (some (t150, 0)))) else (if x0 = 10 then ((stockaderef01_Fit.f x1 (Go.bits .xor .u64 t136 t137)).bind fun t151 => (some (t151, 0))) else (if x0 = 11 then ((stockaderef01_Fit.f x1 t137).bind fun t152 => (some (t152, 0))) else (if x0 = 12 then ((stockaderef01_Size.f x1).bind fun t153 => (if 0 ≤ (IntKind.u64.wrap (t153 - 1)) then (stockaderef01_Alu.l0 k x1 (Int.tmod t137 t138) t136 (shl .u64 1 (IntKind.u64.wrap (t153 - 1))) 0) else (none))) else ((stockaderef01_Fit.f x1 0).bind fun t155 => (some (t155, 0))))))))))))))))))))
def stockaderef01_Alu.l0 : Nat → Bool → Int → Int → Int → Int → Option (Int × Int)
 | 0, _, _, _, _, _ => none
 | k + 1, x1, x12, x13, x14, x15 => if x15 < x12 then (stockaderef01_Alu.l0 k x1 x12 (Go.bits .or .u64 (x13 / 2) (Go.bits .and .u64 x13 x14)) x14 (IntKind.u64.wrap (x15 + 1))) else ((stockaderef01_Fit.f x1 x13).bind fun t154 => (some (t154, 0)))
end
def stockaderef01_Alu.f (k : Nat) (a0 : Int) (a1 : Bool) (a2 : Int) (a3 : Int) : Option (Int × Int) := if a0 < 0 then (stockaderef01_Alu.j0 k a0 a1 a2 a3 true) else (stockaderef01_Alu.j0 k a0 a1 a2 a3 (decide (a0 > 12)))
theorem stockaderef01_Alu.mono_l : ∀ k, (∀ y0 y1 y2 y3 y4, LeO (stockaderef01_Alu.j0 k y0 y1 y2 y3 y4) (stockaderef01_Alu.j0 (k + 1) y0 y1 y2 y3 y4)) ∧ (∀ y0 y1 y2 y3 y4, LeO (stockaderef01_Alu.l0 k y0 y1 y2 y3 y4) (stockaderef01_Alu.l0 (k + 1) y0 y1 y2 y3 y4))
 | 0 => ⟨fun _ _ _ _ _ r h => by simp [stockaderef01_Alu.j0] at h, fun _ _ _ _ _ r h => by simp [stockaderef01_Alu.l0] at h⟩
 | k + 1 => by
  obtain ⟨ih0, ih1⟩ := stockaderef01_Alu.mono_l k
  refine ⟨?_, ?_⟩
  ·intro y0 y1 y2 y3 y4
   unfold stockaderef01_Alu.j0
   repeat' first
   | (with_reducible exact ih0 _ _ _ _ _)
   | (with_reducible exact ih1 _ _ _ _ _)
   | (with_reducible exact LeO.refl _)
   | (with_reducible exact LeO.none _)
   | (with_reducible refine LeO.ite ?_ ?_)
   | (with_reducible refine LeO.bind ?_ (fun _ => ?_))
   | exact ih0 _ _ _ _ _
   | exact ih1 _ _ _ _ _
   | exact LeO.none _
   | refine LeO.ite ?_ ?_
   | refine LeO.bind ?_ (fun _ => ?_)
  ·intro y0 y1 y2 y3 y4
   unfold stockaderef01_Alu.l0
   repeat' first
   | (with_reducible exact ih0 _ _ _ _ _)
   | (with_reducible exact ih1 _ _ _ _ _)
   | (with_reducible exact LeO.refl _)
   | (with_reducible exact LeO.none _)
   | (with_reducible refine LeO.ite ?_ ?_)
   | (with_reducible refine LeO.bind ?_ (fun _ => ?_))
   | exact ih0 _ _ _ _ _
   | exact ih1 _ _ _ _ _
   | exact LeO.none _
   | refine LeO.ite ?_ ?_
   | refine LeO.bind ?_ (fun _ => ?_)
theorem stockaderef01_Alu.mono : ∀ a0 a1 a2 a3 k, LeO (stockaderef01_Alu.f k a0 a1 a2 a3) (stockaderef01_Alu.f (k + 1) a0 a1 a2 a3) := by
 intro a0 a1 a2 a3 k
 obtain ⟨ih0, ih1⟩ := stockaderef01_Alu.mono_l k
 unfold stockaderef01_Alu.f
 repeat' first
   | (with_reducible exact ih0 _ _ _ _ _)
   | (with_reducible exact ih1 _ _ _ _ _)
   | (with_reducible exact LeO.refl _)
   | (with_reducible exact LeO.none _)
   | (with_reducible refine LeO.ite ?_ ?_)
   | (with_reducible refine LeO.bind ?_ (fun _ => ?_))
   | exact ih0 _ _ _ _ _
   | exact ih1 _ _ _ _ _
   | exact LeO.none _
   | refine LeO.ite ?_ ?_
   | refine LeO.bind ?_ (fun _ => ?_)
set_option maxHeartbeats 8000000 in
set_option maxRecDepth 100000 in
theorem stockaderef01_Alu.calls (k : Nat) (a0 : Int) (a1 : Bool) (a2 : Int) (a3 : Int) (r1 : Int) (r2 : Int) (w : World) (h : stockaderef01_Alu.f k a0 a1 a2 a3 = some (r1, r2)) :
  Calls Try.prog 14 #[.int .i64 a0, .bool a1, .int .u64 a2, .int .u64 a3] w fun e w' => e = .returned (.tuple #[.int .u64 r1, .int .i64 r2]) ∧ Drawn0 w w' := by
 have H : (if a0 < 0 then (stockaderef01_Alu.j0 k a0 a1 a2 a3 true) else (stockaderef01_Alu.j0 k a0 a1 a2 a3 (decide (a0 > 12)))) = some (r1, r2) := h
 clear h
 have HC5 := Aside0.mk H
 clear H
 go_enter Try.func14, Try.ntmps14
 go_upto_region 1 with (fail)
 go_cut [22] (fun v22 wc => ∃ (kq : Nat) (x22_4 : Bool), v22 = .bool x22_4 ∧ Aside0 (stockaderef01_Alu.j0 kq a0 a1 a2 a3 x22_4 = some (r1, r2)) ∧ Aside0 (kq ≤ k) ∧ Drawn0 w wc)
 case first =>
  have H := HC5.out
  clear HC5
  by_cases c6 : a0 < 0
  ·rw [if_pos c6] at H
   have c6b0 : decide (a0 < 0) = true := decide_eq_true c6
   clear c6
   (first | rw [c6b0] | (simp only [i64_w, i32_w]; rw [c6b0]) | skip)
   have H' := Aside0.mk H
   clear H
   go_wp2
   go_meet
   case rel => exact ⟨_, (true), eq_now, H', ⟨by first | omega | exact Nat.le_refl _⟩, by repeat (first | exact Drawn0.refl _ | apply Drawn0.step)⟩
  ·rw [if_neg c6] at H
   have c6b0 : decide (a0 < 0) = false := decide_eq_false c6
   clear c6
   (first | rw [c6b0] | (simp only [i64_w, i32_w]; rw [c6b0]) | skip)
   have H' := Aside0.mk H
   clear H
   go_wp2
   go_meet
   case rel => exact ⟨_, (decide (a0 > 12)), eq_now, H', ⟨by first | omega | exact Nat.le_refl _⟩, by repeat (first | exact Drawn0.refl _ | apply Drawn0.step)⟩
 case rest =>
  clear HC5
  try clear c1
  try clear p2
  try clear c6
  try clear c6b0
  obtain ⟨kq, x22_4, rfl, HA, HJ4, ⟨mc4, rfl⟩⟩ := hcut
  cases kq with
  | zero => exact absurd HA.out (by simp [stockaderef01_Alu.j0])
  | succ kj4 =>
   have H := HA.out
   clear HA
   simp only [stockaderef01_Alu.j0] at H
   by_cases c7 : x22_4 = true
   ·subst c7
    replace H := sh_t H
    simp only [Option.some.injEq, Prod.mk.injEq] at H
    obtain ⟨rfl, rfl⟩ := H
    go_wp2
    go_ret2
    exact ⟨by first | rfl | (simp; done) | (simp [*]; done), by repeat (first | exact Drawn0.refl _ | apply Drawn0.step)⟩
   ·replace c7 := Bool.eq_false_iff.mpr c7
    subst c7
    replace H := sh_f H
    replace H := Option.bind_eq_some_iff.mp H; obtain ⟨t136, A80, H⟩ := H; try dsimp only at H
    have A8 := Aside0.mk A80
    clear A80
    replace H := Option.bind_eq_some_iff.mp H; obtain ⟨t137, A90, H⟩ := H; try dsimp only at H
    have A9 := Aside0.mk A90
    clear A90
    replace H := Option.bind_eq_some_iff.mp H; obtain ⟨t138, A100, H⟩ := H; try dsimp only at H
    have A10 := Aside0.mk A100
    clear A100
    by_cases c11 : t138 = 0
    ·rw [if_pos c11] at H
     exact absurd H (by simp)
    ·rw [if_neg c11] at H
     have c11b0 : (t138 == 0) = false := beq_eq_false_iff_ne.mpr c11
     have c11b1 : (t138 != 0) = true := bne_iff_ne.mpr c11
     by_cases c12 : a0 = 0
     ·rw [if_pos c12] at H
      have c12b0 : (a0 == 0) = true := beq_iff_eq.mpr c12
      have c12b1 : (a0 != 0) = false := bne_eq_false_iff_eq.mpr c12
      clear c12
      replace H := Option.bind_eq_some_iff.mp H; obtain ⟨t139, A130, H⟩ := H; try dsimp only at H
      have A13 := Aside0.mk A130
      clear A130
      simp only [Option.some.injEq, Prod.mk.injEq] at H
      obtain ⟨rfl, rfl⟩ := H
      go_wp2_with (first | ((with_reducible refine gate_callee (f := 30) rfl ?_); refine sh_call (some 25) Try.func30 #[.bool a1, .int .u64 a2] ?_; (with_reducible refine (stockaderef01_Fit.calls a1 a2 t136 _ A8.out).mono ?_); rintro e w' ⟨rfl, ⟨nd, rfl⟩⟩; refine ⟨_, rfl, ?_⟩) | ((with_reducible refine gate_callee (f := 30) rfl ?_); refine sh_call (some 28) Try.func30 #[.bool a1, .int .u64 a3] ?_; (with_reducible refine (stockaderef01_Fit.calls a1 a3 t137 _ A9.out).mono ?_); rintro e w' ⟨rfl, ⟨nd, rfl⟩⟩; refine ⟨_, rfl, ?_⟩) | ((with_reducible refine gate_callee (f := 31) rfl ?_); refine sh_call (some 31) Try.func31 #[.bool a1] ?_; (with_reducible refine (stockaderef01_Size.calls a1 t138 _ A10.out).mono ?_); rintro e w' ⟨rfl, ⟨nd, rfl⟩⟩; refine ⟨_, rfl, ?_⟩) | ((with_reducible refine gate_callee (f := 30) rfl ?_); refine sh_call (some 117) Try.func30 #[.bool a1, .int .u64 (IntKind.u64.wrap (t136 + t137))] ?_; (with_reducible refine (stockaderef01_Fit.calls a1 (IntKind.u64.wrap (t136 + t137)) t139 _ A13.out).mono ?_); rintro e w' ⟨rfl, ⟨nd, rfl⟩⟩; refine ⟨_, rfl, ?_⟩))
      go_ret2
      exact ⟨by first | rfl | (simp; done) | (simp [*]; done), by repeat (first | exact Drawn0.refl _ | apply Drawn0.step)⟩
     ·rw [if_neg c12] at H
      have c12b0 : (a0 == 0) = false := beq_eq_false_iff_ne.mpr c12
      have c12b1 : (a0 != 0) = true := bne_iff_ne.mpr c12
      by_cases c14 : a0 = 1
      ·rw [if_pos c14] at H
       have c14b0 : (a0 == 1) = true := beq_iff_eq.mpr c14
       have c14b1 : (a0 != 1) = false := bne_eq_false_iff_eq.mpr c14
       clear c14
       replace H := Option.bind_eq_some_iff.mp H; obtain ⟨t140, A150, H⟩ := H; try dsimp only at H
       have A15 := Aside0.mk A150
       clear A150
       simp only [Option.some.injEq, Prod.mk.injEq] at H
       obtain ⟨rfl, rfl⟩ := H
       go_wp2_with (first | ((with_reducible refine gate_callee (f := 30) rfl ?_); refine sh_call (some 25) Try.func30 #[.bool a1, .int .u64 a2] ?_; (with_reducible refine (stockaderef01_Fit.calls a1 a2 t136 _ A8.out).mono ?_); rintro e w' ⟨rfl, ⟨nd, rfl⟩⟩; refine ⟨_, rfl, ?_⟩) | ((with_reducible refine gate_callee (f := 30) rfl ?_); refine sh_call (some 28) Try.func30 #[.bool a1, .int .u64 a3] ?_; (with_reducible refine (stockaderef01_Fit.calls a1 a3 t137 _ A9.out).mono ?_); rintro e w' ⟨rfl, ⟨nd, rfl⟩⟩; refine ⟨_, rfl, ?_⟩) | ((with_reducible refine gate_callee (f := 31) rfl ?_); refine sh_call (some 31) Try.func31 #[.bool a1] ?_; (with_reducible refine (stockaderef01_Size.calls a1 t138 _ A10.out).mono ?_); rintro e w' ⟨rfl, ⟨nd, rfl⟩⟩; refine ⟨_, rfl, ?_⟩) | ((with_reducible refine gate_callee (f := 30) rfl ?_); refine sh_call (some 117) Try.func30 #[.bool a1, .int .u64 (IntKind.u64.wrap (t136 - t137))] ?_; (with_reducible refine (stockaderef01_Fit.calls a1 (IntKind.u64.wrap (t136 - t137)) t140 _ A15.out).mono ?_); rintro e w' ⟨rfl, ⟨nd, rfl⟩⟩; refine ⟨_, rfl, ?_⟩))
       go_ret2
       exact ⟨by first | rfl | (simp; done) | (simp [*]; done), by repeat (first | exact Drawn0.refl _ | apply Drawn0.step)⟩
      ·rw [if_neg c14] at H
       have c14b0 : (a0 == 1) = false := beq_eq_false_iff_ne.mpr c14
       have c14b1 : (a0 != 1) = true := bne_iff_ne.mpr c14
       by_cases c16 : a0 = 2
       ·rw [if_pos c16] at H
        have c16b0 : (a0 == 2) = true := beq_iff_eq.mpr c16
        have c16b1 : (a0 != 2) = false := bne_eq_false_iff_eq.mpr c16
        clear c16
        replace H := Option.bind_eq_some_iff.mp H; obtain ⟨t141, A170, H⟩ := H; try dsimp only at H
        have A17 := Aside0.mk A170
        clear A170
        simp only [Option.some.injEq, Prod.mk.injEq] at H
        obtain ⟨rfl, rfl⟩ := H
        go_wp2_with (first | ((with_reducible refine gate_callee (f := 30) rfl ?_); refine sh_call (some 25) Try.func30 #[.bool a1, .int .u64 a2] ?_; (with_reducible refine (stockaderef01_Fit.calls a1 a2 t136 _ A8.out).mono ?_); rintro e w' ⟨rfl, ⟨nd, rfl⟩⟩; refine ⟨_, rfl, ?_⟩) | ((with_reducible refine gate_callee (f := 30) rfl ?_); refine sh_call (some 28) Try.func30 #[.bool a1, .int .u64 a3] ?_; (with_reducible refine (stockaderef01_Fit.calls a1 a3 t137 _ A9.out).mono ?_); rintro e w' ⟨rfl, ⟨nd, rfl⟩⟩; refine ⟨_, rfl, ?_⟩) | ((with_reducible refine gate_callee (f := 31) rfl ?_); refine sh_call (some 31) Try.func31 #[.bool a1] ?_; (with_reducible refine (stockaderef01_Size.calls a1 t138 _ A10.out).mono ?_); rintro e w' ⟨rfl, ⟨nd, rfl⟩⟩; refine ⟨_, rfl, ?_⟩) | ((with_reducible refine gate_callee (f := 30) rfl ?_); refine sh_call (some 117) Try.func30 #[.bool a1, .int .u64 (IntKind.u64.wrap (t136 * t137))] ?_; (with_reducible refine (stockaderef01_Fit.calls a1 (IntKind.u64.wrap (t136 * t137)) t141 _ A17.out).mono ?_); rintro e w' ⟨rfl, ⟨nd, rfl⟩⟩; refine ⟨_, rfl, ?_⟩))
        go_ret2
        exact ⟨by first | rfl | (simp; done) | (simp [*]; done), by repeat (first | exact Drawn0.refl _ | apply Drawn0.step)⟩
       ·rw [if_neg c16] at H
        have c16b0 : (a0 == 2) = false := beq_eq_false_iff_ne.mpr c16
        have c16b1 : (a0 != 2) = true := bne_iff_ne.mpr c16
        by_cases c18 : a0 = 3
        ·rw [if_pos c18] at H
         have c18b0 : (a0 == 3) = true := beq_iff_eq.mpr c18
         have c18b1 : (a0 != 3) = false := bne_eq_false_iff_eq.mpr c18
         clear c18
         by_cases c19 : t137 > 0
         ·rw [if_pos c19] at H
          have c19b0 : decide (0 < t137) = true := decide_eq_true c19
          clear c19
          by_cases c20 : t137 = 0
          ·rw [if_pos c20] at H
           exact absurd H (by simp)
          ·rw [if_neg c20] at H
           have c20b0 : (t137 == 0) = false := beq_eq_false_iff_ne.mpr c20
           have c20b1 : (t137 != 0) = true := bne_iff_ne.mpr c20
           replace H := Option.bind_eq_some_iff.mp H; obtain ⟨t142, A210, H⟩ := H; try dsimp only at H
           have A21 := Aside0.mk A210
           clear A210
           simp only [Option.some.injEq, Prod.mk.injEq] at H
           obtain ⟨rfl, rfl⟩ := H
           go_wp2_with (first | ((with_reducible refine gate_callee (f := 30) rfl ?_); refine sh_call (some 25) Try.func30 #[.bool a1, .int .u64 a2] ?_; (with_reducible refine (stockaderef01_Fit.calls a1 a2 t136 _ A8.out).mono ?_); rintro e w' ⟨rfl, ⟨nd, rfl⟩⟩; refine ⟨_, rfl, ?_⟩) | ((with_reducible refine gate_callee (f := 30) rfl ?_); refine sh_call (some 28) Try.func30 #[.bool a1, .int .u64 a3] ?_; (with_reducible refine (stockaderef01_Fit.calls a1 a3 t137 _ A9.out).mono ?_); rintro e w' ⟨rfl, ⟨nd, rfl⟩⟩; refine ⟨_, rfl, ?_⟩) | ((with_reducible refine gate_callee (f := 31) rfl ?_); refine sh_call (some 31) Try.func31 #[.bool a1] ?_; (with_reducible refine (stockaderef01_Size.calls a1 t138 _ A10.out).mono ?_); rintro e w' ⟨rfl, ⟨nd, rfl⟩⟩; refine ⟨_, rfl, ?_⟩) | ((with_reducible refine gate_callee (f := 30) rfl ?_); refine sh_call (some 117) Try.func30 #[.bool a1, .int .u64 (IntKind.u64.wrap (Int.tdiv t136 t137))] ?_; (with_reducible refine (stockaderef01_Fit.calls a1 (IntKind.u64.wrap (Int.tdiv t136 t137)) t142 _ A21.out).mono ?_); rintro e w' ⟨rfl, ⟨nd, rfl⟩⟩; refine ⟨_, rfl, ?_⟩))
           go_ret2
           exact ⟨by first | rfl | (simp; done) | (simp [*]; done), by repeat (first | exact Drawn0.refl _ | apply Drawn0.step)⟩
         ·rw [if_neg c19] at H
          have c19b0 : decide (0 < t137) = false := decide_eq_false c19
          clear c19
          replace H := Option.bind_eq_some_iff.mp H; obtain ⟨t143, A220, H⟩ := H; try dsimp only at H
          have A22 := Aside0.mk A220
          clear A220
          simp only [Option.some.injEq, Prod.mk.injEq] at H
          obtain ⟨rfl, rfl⟩ := H
          go_wp2_with (first | ((with_reducible refine gate_callee (f := 30) rfl ?_); refine sh_call (some 25) Try.func30 #[.bool a1, .int .u64 a2] ?_; (with_reducible refine (stockaderef01_Fit.calls a1 a2 t136 _ A8.out).mono ?_); rintro e w' ⟨rfl, ⟨nd, rfl⟩⟩; refine ⟨_, rfl, ?_⟩) | ((with_reducible refine gate_callee (f := 30) rfl ?_); refine sh_call (some 28) Try.func30 #[.bool a1, .int .u64 a3] ?_; (with_reducible refine (stockaderef01_Fit.calls a1 a3 t137 _ A9.out).mono ?_); rintro e w' ⟨rfl, ⟨nd, rfl⟩⟩; refine ⟨_, rfl, ?_⟩) | ((with_reducible refine gate_callee (f := 31) rfl ?_); refine sh_call (some 31) Try.func31 #[.bool a1] ?_; (with_reducible refine (stockaderef01_Size.calls a1 t138 _ A10.out).mono ?_); rintro e w' ⟨rfl, ⟨nd, rfl⟩⟩; refine ⟨_, rfl, ?_⟩) | ((with_reducible refine gate_callee (f := 30) rfl ?_); refine sh_call (some 117) Try.func30 #[.bool a1, .int .u64 0] ?_; (with_reducible refine (stockaderef01_Fit.calls a1 0 t143 _ A22.out).mono ?_); rintro e w' ⟨rfl, ⟨nd, rfl⟩⟩; refine ⟨_, rfl, ?_⟩))
          go_ret2
          exact ⟨by first | rfl | (simp; done) | (simp [*]; done), by repeat (first | exact Drawn0.refl _ | apply Drawn0.step)⟩
        ·rw [if_neg c18] at H
         have c18b0 : (a0 == 3) = false := beq_eq_false_iff_ne.mpr c18
         have c18b1 : (a0 != 3) = true := bne_iff_ne.mpr c18
         by_cases c23 : a0 = 4
         ·rw [if_pos c23] at H
          have c23b0 : (a0 == 4) = true := beq_iff_eq.mpr c23
          have c23b1 : (a0 != 4) = false := bne_eq_false_iff_eq.mpr c23
          clear c23
          replace H := Option.bind_eq_some_iff.mp H; obtain ⟨t144, A240, H⟩ := H; try dsimp only at H
          have A24 := Aside0.mk A240
          clear A240
          simp only [Option.some.injEq, Prod.mk.injEq] at H
          obtain ⟨rfl, rfl⟩ := H
          go_wp2_with (first | ((with_reducible refine gate_callee (f := 30) rfl ?_); refine sh_call (some 25) Try.func30 #[.bool a1, .int .u64 a2] ?_; (with_reducible refine (stockaderef01_Fit.calls a1 a2 t136 _ A8.out).mono ?_); rintro e w' ⟨rfl, ⟨nd, rfl⟩⟩; refine ⟨_, rfl, ?_⟩) | ((with_reducible refine gate_callee (f := 30) rfl ?_); refine sh_call (some 28) Try.func30 #[.bool a1, .int .u64 a3] ?_; (with_reducible refine (stockaderef01_Fit.calls a1 a3 t137 _ A9.out).mono ?_); rintro e w' ⟨rfl, ⟨nd, rfl⟩⟩; refine ⟨_, rfl, ?_⟩) | ((with_reducible refine gate_callee (f := 31) rfl ?_); refine sh_call (some 31) Try.func31 #[.bool a1] ?_; (with_reducible refine (stockaderef01_Size.calls a1 t138 _ A10.out).mono ?_); rintro e w' ⟨rfl, ⟨nd, rfl⟩⟩; refine ⟨_, rfl, ?_⟩) | ((with_reducible refine gate_callee (f := 30) rfl ?_); refine sh_call (some 117) Try.func30 #[.bool a1, .int .u64 (Go.bits .or .u64 t136 t137)] ?_; (with_reducible refine (stockaderef01_Fit.calls a1 (Go.bits .or .u64 t136 t137) t144 _ A24.out).mono ?_); rintro e w' ⟨rfl, ⟨nd, rfl⟩⟩; refine ⟨_, rfl, ?_⟩))
          go_ret2
          exact ⟨by first | rfl | (simp; done) | (simp [*]; done), by repeat (first | exact Drawn0.refl _ | apply Drawn0.step)⟩
         ·rw [if_neg c23] at H
          have c23b0 : (a0 == 4) = false := beq_eq_false_iff_ne.mpr c23
          have c23b1 : (a0 != 4) = true := bne_iff_ne.mpr c23
          by_cases c25 : a0 = 5
          ·rw [if_pos c25] at H
           have c25b0 : (a0 == 5) = true := beq_iff_eq.mpr c25
           have c25b1 : (a0 != 5) = false := bne_eq_false_iff_eq.mpr c25
           clear c25
           replace H := Option.bind_eq_some_iff.mp H; obtain ⟨t145, A260, H⟩ := H; try dsimp only at H
           have A26 := Aside0.mk A260
           clear A260
           simp only [Option.some.injEq, Prod.mk.injEq] at H
           obtain ⟨rfl, rfl⟩ := H
           go_wp2_with (first | ((with_reducible refine gate_callee (f := 30) rfl ?_); refine sh_call (some 25) Try.func30 #[.bool a1, .int .u64 a2] ?_; (with_reducible refine (stockaderef01_Fit.calls a1 a2 t136 _ A8.out).mono ?_); rintro e w' ⟨rfl, ⟨nd, rfl⟩⟩; refine ⟨_, rfl, ?_⟩) | ((with_reducible refine gate_callee (f := 30) rfl ?_); refine sh_call (some 28) Try.func30 #[.bool a1, .int .u64 a3] ?_; (with_reducible refine (stockaderef01_Fit.calls a1 a3 t137 _ A9.out).mono ?_); rintro e w' ⟨rfl, ⟨nd, rfl⟩⟩; refine ⟨_, rfl, ?_⟩) | ((with_reducible refine gate_callee (f := 31) rfl ?_); refine sh_call (some 31) Try.func31 #[.bool a1] ?_; (with_reducible refine (stockaderef01_Size.calls a1 t138 _ A10.out).mono ?_); rintro e w' ⟨rfl, ⟨nd, rfl⟩⟩; refine ⟨_, rfl, ?_⟩) | ((with_reducible refine gate_callee (f := 30) rfl ?_); refine sh_call (some 117) Try.func30 #[.bool a1, .int .u64 (Go.bits .and .u64 t136 t137)] ?_; (with_reducible refine (stockaderef01_Fit.calls a1 (Go.bits .and .u64 t136 t137) t145 _ A26.out).mono ?_); rintro e w' ⟨rfl, ⟨nd, rfl⟩⟩; refine ⟨_, rfl, ?_⟩))
           go_ret2
           exact ⟨by first | rfl | (simp; done) | (simp [*]; done), by repeat (first | exact Drawn0.refl _ | apply Drawn0.step)⟩
          ·rw [if_neg c25] at H
           have c25b0 : (a0 == 5) = false := beq_eq_false_iff_ne.mpr c25
           have c25b1 : (a0 != 5) = true := bne_iff_ne.mpr c25
           by_cases c27 : a0 = 6
           ·rw [if_pos c27] at H
            have c27b0 : (a0 == 6) = true := beq_iff_eq.mpr c27
            have c27b1 : (a0 != 6) = false := bne_eq_false_iff_eq.mpr c27
            clear c27
            obtain ⟨ji28, hji28⟩ : ∃ j_ : Int, (Int.tmod t137 t138) = j_ := ⟨_, rfl⟩
            replace H : (if 0 ≤ (ji28) then ((stockaderef01_Fit.f a1 (shl .u64 t136 (ji28))).bind fun t146 => (some (t146, 0))) else (none)) = some (r1, r2) := by first | (rw [hji28] at H; exact H) | (simp only [hji28] at H ⊢; exact H)
            (try rw [hji28] at A8)
            (try rw [hji28] at A9)
            (try rw [hji28] at A10)
            by_cases c29 : 0 ≤ (ji28)
            ·rw [if_pos c29] at H
             have c29b0 := eq_true c29
             have c29b1 : decide (0 ≤ (ji28)) = true := decide_eq_true c29
             clear c29
             obtain ⟨ji30, hji30⟩ : ∃ j_ : Int, (shl .u64 t136 (ji28)) = j_ := ⟨_, rfl⟩
             replace H : ((stockaderef01_Fit.f a1 (ji30)).bind fun t146 => (some (t146, 0))) = some (r1, r2) := by first | (rw [hji30] at H; exact H) | (simp only [hji30] at H ⊢; exact H)
             (try rw [hji30] at A8)
             (try rw [hji30] at A9)
             (try rw [hji30] at A10)
             have hji30_ : (IntKind.u64.wrap (t136 * 2 ^ min (ji28).toNat 64)) = ji30 := hji30
             have hji30z : (ji28) ≤ 64 → (IntKind.u64.wrap (t136 * 2 ^ (ji28).toNat)) = ji30 := shl_small hji30
             replace H := Option.bind_eq_some_iff.mp H; obtain ⟨t146, A310, H⟩ := H; try dsimp only at H
             have A31 := Aside0.mk A310
             clear A310
             simp only [Option.some.injEq, Prod.mk.injEq] at H
             obtain ⟨rfl, rfl⟩ := H
             go_wp2_with (first | ((with_reducible refine gate_callee (f := 30) rfl ?_); refine sh_call (some 25) Try.func30 #[.bool a1, .int .u64 a2] ?_; (with_reducible refine (stockaderef01_Fit.calls a1 a2 t136 _ A8.out).mono ?_); rintro e w' ⟨rfl, ⟨nd, rfl⟩⟩; refine ⟨_, rfl, ?_⟩) | ((with_reducible refine gate_callee (f := 30) rfl ?_); refine sh_call (some 28) Try.func30 #[.bool a1, .int .u64 a3] ?_; (with_reducible refine (stockaderef01_Fit.calls a1 a3 t137 _ A9.out).mono ?_); rintro e w' ⟨rfl, ⟨nd, rfl⟩⟩; refine ⟨_, rfl, ?_⟩) | ((with_reducible refine gate_callee (f := 31) rfl ?_); refine sh_call (some 31) Try.func31 #[.bool a1] ?_; (with_reducible refine (stockaderef01_Size.calls a1 t138 _ A10.out).mono ?_); rintro e w' ⟨rfl, ⟨nd, rfl⟩⟩; refine ⟨_, rfl, ?_⟩) | ((with_reducible refine gate_callee (f := 30) rfl ?_); refine goesL_ (some 117) rfl rfl Try.func30 (by kernel_rfl) rfl #[.bool a1, .int .u64 ji30] rfl (by (try simp only [List.map_toArray, List.map_cons, List.map_nil]); first | done | (simp only [hji30]; rfl) | rfl | (simp only [List.length_drop, List.length_take]; rfl)) ?_; (with_reducible refine (stockaderef01_Fit.calls a1 ji30 t146 _ A31.out).mono ?_); rintro e w' ⟨rfl, ⟨nd, rfl⟩⟩; refine ⟨_, rfl, ?_⟩))
             go_ret2
             exact ⟨by first | rfl | (simp; done) | (simp only [← hji28, ← hji30] <;> (first | rfl | simp)) | (simp [*]; done), by repeat (first | exact Drawn0.refl _ | apply Drawn0.step)⟩
            ·rw [if_neg c29] at H
             exact absurd H (by simp)
           ·rw [if_neg c27] at H
            have c27b0 : (a0 == 6) = false := beq_eq_false_iff_ne.mpr c27
            have c27b1 : (a0 != 6) = true := bne_iff_ne.mpr c27
            by_cases c32 : a0 = 7
            ·rw [if_pos c32] at H
             have c32b0 : (a0 == 7) = true := beq_iff_eq.mpr c32
             have c32b1 : (a0 != 7) = false := bne_eq_false_iff_eq.mpr c32
             clear c32
             obtain ⟨ji33, hji33⟩ : ∃ j_ : Int, (Int.tmod t137 t138) = j_ := ⟨_, rfl⟩
             replace H : (if 0 ≤ (ji33) then ((stockaderef01_Fit.f a1 (shr .u64 t136 (ji33))).bind fun t147 => (some (t147, 0))) else (none)) = some (r1, r2) := by first | (rw [hji33] at H; exact H) | (simp only [hji33] at H ⊢; exact H)
             (try rw [hji33] at A8)
             (try rw [hji33] at A9)
             (try rw [hji33] at A10)
             by_cases c34 : 0 ≤ (ji33)
             ·rw [if_pos c34] at H
              have c34b0 := eq_true c34
              have c34b1 : decide (0 ≤ (ji33)) = true := decide_eq_true c34
              clear c34
              obtain ⟨ji35, hji35⟩ : ∃ j_ : Int, (shr .u64 t136 (ji33)) = j_ := ⟨_, rfl⟩
              replace H : ((stockaderef01_Fit.f a1 (ji35)).bind fun t147 => (some (t147, 0))) = some (r1, r2) := by first | (rw [hji35] at H; exact H) | (simp only [hji35] at H ⊢; exact H)
              (try rw [hji35] at A8)
              (try rw [hji35] at A9)
              (try rw [hji35] at A10)
              have hji35_ : (t136 / 2 ^ min (ji33).toNat 64) = ji35 := hji35
              have hji35z : (ji33) ≤ 64 → (t136 / 2 ^ (ji33).toNat) = ji35 := shr_small hji35
              replace H := Option.bind_eq_some_iff.mp H; obtain ⟨t147, A360, H⟩ := H; try dsimp only at H
              have A36 := Aside0.mk A360
              clear A360
              simp only [Option.some.injEq, Prod.mk.injEq] at H
              obtain ⟨rfl, rfl⟩ := H
              go_wp2_with (first | ((with_reducible refine gate_callee (f := 30) rfl ?_); refine sh_call (some 25) Try.func30 #[.bool a1, .int .u64 a2] ?_; (with_reducible refine (stockaderef01_Fit.calls a1 a2 t136 _ A8.out).mono ?_); rintro e w' ⟨rfl, ⟨nd, rfl⟩⟩; refine ⟨_, rfl, ?_⟩) | ((with_reducible refine gate_callee (f := 30) rfl ?_); refine sh_call (some 28) Try.func30 #[.bool a1, .int .u64 a3] ?_; (with_reducible refine (stockaderef01_Fit.calls a1 a3 t137 _ A9.out).mono ?_); rintro e w' ⟨rfl, ⟨nd, rfl⟩⟩; refine ⟨_, rfl, ?_⟩) | ((with_reducible refine gate_callee (f := 31) rfl ?_); refine sh_call (some 31) Try.func31 #[.bool a1] ?_; (with_reducible refine (stockaderef01_Size.calls a1 t138 _ A10.out).mono ?_); rintro e w' ⟨rfl, ⟨nd, rfl⟩⟩; refine ⟨_, rfl, ?_⟩) | ((with_reducible refine gate_callee (f := 30) rfl ?_); refine goesL_ (some 117) rfl rfl Try.func30 (by kernel_rfl) rfl #[.bool a1, .int .u64 ji35] rfl (by (try simp only [List.map_toArray, List.map_cons, List.map_nil]); first | done | (simp only [hji35]; rfl) | rfl | (simp only [List.length_drop, List.length_take]; rfl)) ?_; (with_reducible refine (stockaderef01_Fit.calls a1 ji35 t147 _ A36.out).mono ?_); rintro e w' ⟨rfl, ⟨nd, rfl⟩⟩; refine ⟨_, rfl, ?_⟩))
              go_ret2
              exact ⟨by first | rfl | (simp; done) | (simp only [← hji33, ← hji35] <;> (first | rfl | simp)) | (simp [*]; done), by repeat (first | exact Drawn0.refl _ | apply Drawn0.step)⟩
             ·rw [if_neg c34] at H
              exact absurd H (by simp)
            ·rw [if_neg c32] at H
             have c32b0 : (a0 == 7) = false := beq_eq_false_iff_ne.mpr c32
             have c32b1 : (a0 != 7) = true := bne_iff_ne.mpr c32
             by_cases c37 : a0 = 8
             ·rw [if_pos c37] at H
              have c37b0 : (a0 == 8) = true := beq_iff_eq.mpr c37
              have c37b1 : (a0 != 8) = false := bne_eq_false_iff_eq.mpr c37
              clear c37
              replace H := Option.bind_eq_some_iff.mp H; obtain ⟨t148, A380, H⟩ := H; try dsimp only at H
              have A38 := Aside0.mk A380
              clear A380
              simp only [Option.some.injEq, Prod.mk.injEq] at H
              obtain ⟨rfl, rfl⟩ := H
              go_wp2_with (first | ((with_reducible refine gate_callee (f := 30) rfl ?_); refine sh_call (some 25) Try.func30 #[.bool a1, .int .u64 a2] ?_; (with_reducible refine (stockaderef01_Fit.calls a1 a2 t136 _ A8.out).mono ?_); rintro e w' ⟨rfl, ⟨nd, rfl⟩⟩; refine ⟨_, rfl, ?_⟩) | ((with_reducible refine gate_callee (f := 30) rfl ?_); refine sh_call (some 28) Try.func30 #[.bool a1, .int .u64 a3] ?_; (with_reducible refine (stockaderef01_Fit.calls a1 a3 t137 _ A9.out).mono ?_); rintro e w' ⟨rfl, ⟨nd, rfl⟩⟩; refine ⟨_, rfl, ?_⟩) | ((with_reducible refine gate_callee (f := 31) rfl ?_); refine sh_call (some 31) Try.func31 #[.bool a1] ?_; (with_reducible refine (stockaderef01_Size.calls a1 t138 _ A10.out).mono ?_); rintro e w' ⟨rfl, ⟨nd, rfl⟩⟩; refine ⟨_, rfl, ?_⟩) | ((with_reducible refine gate_callee (f := 30) rfl ?_); refine sh_call (some 117) Try.func30 #[.bool a1, .int .u64 (IntKind.u64.wrap (-t136))] ?_; (with_reducible refine (stockaderef01_Fit.calls a1 (IntKind.u64.wrap (-t136)) t148 _ A38.out).mono ?_); rintro e w' ⟨rfl, ⟨nd, rfl⟩⟩; refine ⟨_, rfl, ?_⟩))
              go_ret2
              exact ⟨by first | rfl | (simp; done) | (simp [*]; done), by repeat (first | exact Drawn0.refl _ | apply Drawn0.step)⟩
             ·rw [if_neg c37] at H
              have c37b0 : (a0 == 8) = false := beq_eq_false_iff_ne.mpr c37
              have c37b1 : (a0 != 8) = true := bne_iff_ne.mpr c37
              by_cases c39 : a0 = 9
              ·rw [if_pos c39] at H
               have c39b0 : (a0 == 9) = true := beq_iff_eq.mpr c39
               have c39b1 : (a0 != 9) = false := bne_eq_false_iff_eq.mpr c39
               clear c39
               by_cases c40 : t137 > 0
               ·rw [if_pos c40] at H
                have c40b0 : decide (0 < t137) = true := decide_eq_true c40
                clear c40
                by_cases c41 : t137 = 0
                ·rw [if_pos c41] at H
                 exact absurd H (by simp)
                ·rw [if_neg c41] at H
                 have c41b0 : (t137 == 0) = false := beq_eq_false_iff_ne.mpr c41
                 have c41b1 : (t137 != 0) = true := bne_iff_ne.mpr c41
                 replace H := Option.bind_eq_some_iff.mp H; obtain ⟨t149, A420, H⟩ := H; try dsimp only at H
                 have A42 := Aside0.mk A420
                 clear A420
                 simp only [Option.some.injEq, Prod.mk.injEq] at H
                 obtain ⟨rfl, rfl⟩ := H
                 go_wp2_with (first | ((with_reducible refine gate_callee (f := 30) rfl ?_); refine sh_call (some 25) Try.func30 #[.bool a1, .int .u64 a2] ?_; (with_reducible refine (stockaderef01_Fit.calls a1 a2 t136 _ A8.out).mono ?_); rintro e w' ⟨rfl, ⟨nd, rfl⟩⟩; refine ⟨_, rfl, ?_⟩) | ((with_reducible refine gate_callee (f := 30) rfl ?_); refine sh_call (some 28) Try.func30 #[.bool a1, .int .u64 a3] ?_; (with_reducible refine (stockaderef01_Fit.calls a1 a3 t137 _ A9.out).mono ?_); rintro e w' ⟨rfl, ⟨nd, rfl⟩⟩; refine ⟨_, rfl, ?_⟩) | ((with_reducible refine gate_callee (f := 31) rfl ?_); refine sh_call (some 31) Try.func31 #[.bool a1] ?_; (with_reducible refine (stockaderef01_Size.calls a1 t138 _ A10.out).mono ?_); rintro e w' ⟨rfl, ⟨nd, rfl⟩⟩; refine ⟨_, rfl, ?_⟩) | ((with_reducible refine gate_callee (f := 30) rfl ?_); refine sh_call (some 117) Try.func30 #[.bool a1, .int .u64 (Int.tmod t136 t137)] ?_; (with_reducible refine (stockaderef01_Fit.calls a1 (Int.tmod t136 t137) t149 _ A42.out).mono ?_); rintro e w' ⟨rfl, ⟨nd, rfl⟩⟩; refine ⟨_, rfl, ?_⟩))
                 go_ret2
                 exact ⟨by first | rfl | (simp; done) | (simp [*]; done), by repeat (first | exact Drawn0.refl _ | apply Drawn0.step)⟩
               ·rw [if_neg c40] at H
                have c40b0 : decide (0 < t137) = false := decide_eq_false c40
                clear c40
                replace H := Option.bind_eq_some_iff.mp H; obtain ⟨t150, A430, H⟩ := H; try dsimp only at H
                have A43 := Aside0.mk A430
                clear A430
                simp only [Option.some.injEq, Prod.mk.injEq] at H
                obtain ⟨rfl, rfl⟩ := H
                go_wp2_with (first | ((with_reducible refine gate_callee (f := 30) rfl ?_); refine sh_call (some 25) Try.func30 #[.bool a1, .int .u64 a2] ?_; (with_reducible refine (stockaderef01_Fit.calls a1 a2 t136 _ A8.out).mono ?_); rintro e w' ⟨rfl, ⟨nd, rfl⟩⟩; refine ⟨_, rfl, ?_⟩) | ((with_reducible refine gate_callee (f := 30) rfl ?_); refine sh_call (some 28) Try.func30 #[.bool a1, .int .u64 a3] ?_; (with_reducible refine (stockaderef01_Fit.calls a1 a3 t137 _ A9.out).mono ?_); rintro e w' ⟨rfl, ⟨nd, rfl⟩⟩; refine ⟨_, rfl, ?_⟩) | ((with_reducible refine gate_callee (f := 31) rfl ?_); refine sh_call (some 31) Try.func31 #[.bool a1] ?_; (with_reducible refine (stockaderef01_Size.calls a1 t138 _ A10.out).mono ?_); rintro e w' ⟨rfl, ⟨nd, rfl⟩⟩; refine ⟨_, rfl, ?_⟩) | ((with_reducible refine gate_callee (f := 30) rfl ?_); refine sh_call (some 117) Try.func30 #[.bool a1, .int .u64 t136] ?_; (with_reducible refine (stockaderef01_Fit.calls a1 t136 t150 _ A43.out).mono ?_); rintro e w' ⟨rfl, ⟨nd, rfl⟩⟩; refine ⟨_, rfl, ?_⟩))
                go_ret2
                exact ⟨by first | rfl | (simp; done) | (simp [*]; done), by repeat (first | exact Drawn0.refl _ | apply Drawn0.step)⟩
              ·rw [if_neg c39] at H
               have c39b0 : (a0 == 9) = false := beq_eq_false_iff_ne.mpr c39
               have c39b1 : (a0 != 9) = true := bne_iff_ne.mpr c39
               by_cases c44 : a0 = 10
               ·rw [if_pos c44] at H
                have c44b0 : (a0 == 10) = true := beq_iff_eq.mpr c44
                have c44b1 : (a0 != 10) = false := bne_eq_false_iff_eq.mpr c44
                clear c44
                replace H := Option.bind_eq_some_iff.mp H; obtain ⟨t151, A450, H⟩ := H; try dsimp only at H
                have A45 := Aside0.mk A450
                clear A450
                simp only [Option.some.injEq, Prod.mk.injEq] at H
                obtain ⟨rfl, rfl⟩ := H
                go_wp2_with (first | ((with_reducible refine gate_callee (f := 30) rfl ?_); refine sh_call (some 25) Try.func30 #[.bool a1, .int .u64 a2] ?_; (with_reducible refine (stockaderef01_Fit.calls a1 a2 t136 _ A8.out).mono ?_); rintro e w' ⟨rfl, ⟨nd, rfl⟩⟩; refine ⟨_, rfl, ?_⟩) | ((with_reducible refine gate_callee (f := 30) rfl ?_); refine sh_call (some 28) Try.func30 #[.bool a1, .int .u64 a3] ?_; (with_reducible refine (stockaderef01_Fit.calls a1 a3 t137 _ A9.out).mono ?_); rintro e w' ⟨rfl, ⟨nd, rfl⟩⟩; refine ⟨_, rfl, ?_⟩) | ((with_reducible refine gate_callee (f := 31) rfl ?_); refine sh_call (some 31) Try.func31 #[.bool a1] ?_; (with_reducible refine (stockaderef01_Size.calls a1 t138 _ A10.out).mono ?_); rintro e w' ⟨rfl, ⟨nd, rfl⟩⟩; refine ⟨_, rfl, ?_⟩) | ((with_reducible refine gate_callee (f := 30) rfl ?_); refine sh_call (some 117) Try.func30 #[.bool a1, .int .u64 (Go.bits .xor .u64 t136 t137)] ?_; (with_reducible refine (stockaderef01_Fit.calls a1 (Go.bits .xor .u64 t136 t137) t151 _ A45.out).mono ?_); rintro e w' ⟨rfl, ⟨nd, rfl⟩⟩; refine ⟨_, rfl, ?_⟩))
                go_ret2
                exact ⟨by first | rfl | (simp; done) | (simp [*]; done), by repeat (first | exact Drawn0.refl _ | apply Drawn0.step)⟩
               ·rw [if_neg c44] at H
                have c44b0 : (a0 == 10) = false := beq_eq_false_iff_ne.mpr c44
                have c44b1 : (a0 != 10) = true := bne_iff_ne.mpr c44
                by_cases c46 : a0 = 11
                ·rw [if_pos c46] at H
                 have c46b0 : (a0 == 11) = true := beq_iff_eq.mpr c46
                 have c46b1 : (a0 != 11) = false := bne_eq_false_iff_eq.mpr c46
                 clear c46
                 replace H := Option.bind_eq_some_iff.mp H; obtain ⟨t152, A470, H⟩ := H; try dsimp only at H
                 have A47 := Aside0.mk A470
                 clear A470
                 simp only [Option.some.injEq, Prod.mk.injEq] at H
                 obtain ⟨rfl, rfl⟩ := H
                 go_wp2_with (first | ((with_reducible refine gate_callee (f := 30) rfl ?_); refine sh_call (some 25) Try.func30 #[.bool a1, .int .u64 a2] ?_; (with_reducible refine (stockaderef01_Fit.calls a1 a2 t136 _ A8.out).mono ?_); rintro e w' ⟨rfl, ⟨nd, rfl⟩⟩; refine ⟨_, rfl, ?_⟩) | ((with_reducible refine gate_callee (f := 30) rfl ?_); refine sh_call (some 28) Try.func30 #[.bool a1, .int .u64 a3] ?_; (with_reducible refine (stockaderef01_Fit.calls a1 a3 t137 _ A9.out).mono ?_); rintro e w' ⟨rfl, ⟨nd, rfl⟩⟩; refine ⟨_, rfl, ?_⟩) | ((with_reducible refine gate_callee (f := 31) rfl ?_); refine sh_call (some 31) Try.func31 #[.bool a1] ?_; (with_reducible refine (stockaderef01_Size.calls a1 t138 _ A10.out).mono ?_); rintro e w' ⟨rfl, ⟨nd, rfl⟩⟩; refine ⟨_, rfl, ?_⟩) | ((with_reducible refine gate_callee (f := 30) rfl ?_); refine sh_call (some 117) Try.func30 #[.bool a1, .int .u64 t137] ?_; (with_reducible refine (stockaderef01_Fit.calls a1 t137 t152 _ A47.out).mono ?_); rintro e w' ⟨rfl, ⟨nd, rfl⟩⟩; refine ⟨_, rfl, ?_⟩))
                 go_ret2
                 exact ⟨by first | rfl | (simp; done) | (simp [*]; done), by repeat (first | exact Drawn0.refl _ | apply Drawn0.step)⟩
                ·rw [if_neg c46] at H
                 have c46b0 : (a0 == 11) = false := beq_eq_false_iff_ne.mpr c46
                 have c46b1 : (a0 != 11) = true := bne_iff_ne.mpr c46
                 by_cases c48 : a0 = 12
                 ·rw [if_pos c48] at H
                  have c48b0 : (a0 == 12) = true := beq_iff_eq.mpr c48
                  have c48b1 : (a0 != 12) = false := bne_eq_false_iff_eq.mpr c48
                  clear c48
                  replace H := Option.bind_eq_some_iff.mp H; obtain ⟨t153, A490, H⟩ := H; try dsimp only at H
                  have A49 := Aside0.mk A490
                  clear A490
                  obtain ⟨ji50, hji50⟩ : ∃ j_ : Int, (IntKind.u64.wrap (t153 - 1)) = j_ := ⟨_, rfl⟩
                  replace H : (if 0 ≤ (ji50) then (stockaderef01_Alu.l0 kj4 a1 (Int.tmod t137 t138) t136 (shl .u64 1 (ji50)) 0) else (none)) = some (r1, r2) := by first | (rw [hji50] at H; exact H) | (simp only [hji50] at H ⊢; exact H)
                  (try rw [hji50] at A8)
                  (try rw [hji50] at A9)
                  (try rw [hji50] at A10)
                  (try rw [hji50] at A49)
                  by_cases c51 : 0 ≤ (ji50)
                  ·rw [if_pos c51] at H
                   have c51b0 := eq_true c51
                   have c51b1 : decide (0 ≤ (ji50)) = true := decide_eq_true c51
                   clear c51
                   obtain ⟨ji52, hji52⟩ : ∃ j_ : Int, (shl .u64 1 (ji50)) = j_ := ⟨_, rfl⟩
                   replace H : (stockaderef01_Alu.l0 kj4 a1 (Int.tmod t137 t138) t136 ji52 0) = some (r1, r2) := by first | (rw [hji52] at H; exact H) | (simp only [hji52] at H ⊢; exact H)
                   (try rw [hji52] at A8)
                   (try rw [hji52] at A9)
                   (try rw [hji52] at A10)
                   (try rw [hji52] at A49)
                   have hji52_ : (IntKind.u64.wrap (1 * 2 ^ min (ji50).toNat 64)) = ji52 := hji52
                   have hji52z : (ji50) ≤ 64 → (IntKind.u64.wrap (1 * 2 ^ (ji50).toNat)) = ji52 := shl_small hji52
                   have hji52u : (IntKind.u64.wrap (2 ^ min (ji50).toNat 64)) = ji52 := by have h_ := hji52_; rw [Int.one_mul] at h_; exact h_
                   have hji52v : (ji50) ≤ 64 → (IntKind.u64.wrap (2 ^ (ji50).toNat)) = ji52 := fun hle_ => by have h_ := hji52z hle_; rw [Int.one_mul] at h_; exact h_
                   have H' := Aside0.mk H
                   clear H
                   go_wp2_with (first | ((with_reducible refine gate_callee (f := 30) rfl ?_); refine sh_call (some 25) Try.func30 #[.bool a1, .int .u64 a2] ?_; (with_reducible refine (stockaderef01_Fit.calls a1 a2 t136 _ A8.out).mono ?_); rintro e w' ⟨rfl, ⟨nd, rfl⟩⟩; refine ⟨_, rfl, ?_⟩) | ((with_reducible refine gate_callee (f := 30) rfl ?_); refine sh_call (some 28) Try.func30 #[.bool a1, .int .u64 a3] ?_; (with_reducible refine (stockaderef01_Fit.calls a1 a3 t137 _ A9.out).mono ?_); rintro e w' ⟨rfl, ⟨nd, rfl⟩⟩; refine ⟨_, rfl, ?_⟩) | ((with_reducible refine gate_callee (f := 31) rfl ?_); refine sh_call (some 31) Try.func31 #[.bool a1] ?_; (with_reducible refine (stockaderef01_Size.calls a1 t138 _ A10.out).mono ?_); rintro e w' ⟨rfl, ⟨nd, rfl⟩⟩; refine ⟨_, rfl, ?_⟩) | ((with_reducible refine gate_callee (f := 31) rfl ?_); refine sh_call (some 100) Try.func31 #[.bool a1] ?_; (with_reducible refine (stockaderef01_Size.calls a1 t153 _ A49.out).mono ?_); rintro e w' ⟨rfl, ⟨nd, rfl⟩⟩; refine ⟨_, rfl, ?_⟩))
                   go_loopg [13, 15] kj4 (fun kq v13 v15 w' => ∃ (x13_2 : Int) (x15_2 : Int), v13 = .int .u64 x13_2 ∧ v15 = .int .u64 x15_2 ∧ Aside0 (stockaderef01_Alu.l0 kq a1 (Int.tmod t137 t138) x13_2 ji52 x15_2 = some (r1, r2)) ∧ Aside0 (kq ≤ kj4) ∧ Drawn0 w w')
                   case atStart => exact ⟨(t136), (0), eq_now, eq_now, H', ⟨Nat.le_refl _⟩, by repeat (first | exact Drawn0.refl _ | apply Drawn0.step)⟩
                   case round =>
                    clear H'
                    try clear c1
                    try clear c2
                    try clear p2
                    try clear c3
                    try clear c4
                    try clear c5
                    try clear c6
                    try clear c6b0
                    try clear c7
                    try clear c11
                    try clear c11b0
                    try clear c11b1
                    try clear c12
                    try clear c12b0
                    try clear c12b1
                    try clear c14
                    try clear c14b0
                    try clear c14b1
                    try clear c16
                    try clear c16b0
                    try clear c16b1
                    try clear c18
                    try clear c18b0
                    try clear c18b1
                    try clear c19
                    try clear c19b0
                    try clear c20
                    try clear c20b0
                    try clear c20b1
                    try clear c23
                    try clear c23b0
                    try clear c23b1
                    try clear c25
                    try clear c25b0
                    try clear c25b1
                    try clear c27
                    try clear c27b0
                    try clear c27b1
                    try clear c29
                    try clear c29b0
                    try clear c29b1
                    try clear c30
                    try clear c31
                    try clear c32
                    try clear c32b0
                    try clear c32b1
                    try clear c34
                    try clear c34b0
                    try clear c34b1
                    try clear c37
                    try clear c37b0
                    try clear c37b1
                    try clear c39
                    try clear c39b0
                    try clear c39b1
                    try clear c40
                    try clear c40b0
                    try clear c41
                    try clear c41b0
                    try clear c41b1
                    try clear c44
                    try clear c44b0
                    try clear c44b1
                    try clear c46
                    try clear c46b0
                    try clear c46b1
                    try clear c48
                    try clear c48b0
                    try clear c48b1
                    try clear c51
                    try clear c51b0
                    try clear c51b1
                    try clear p2
                    obtain ⟨x13_2, x15_2, rfl, rfl, HA, HK2, ⟨m2, rfl⟩⟩ := hrel
                    cases gk with
                    | zero => exact absurd HA.out (by simp [stockaderef01_Alu.l0])
                    | succ k2 =>
                     have H := HA.out
                     clear HA
                     simp only [stockaderef01_Alu.l0] at H
                     by_cases c53 : x15_2 < (Int.tmod t137 t138)
                     ·rw [if_pos c53] at H
                      have c53b0 : decide (x15_2 < (Int.tmod t137 t138)) = true := decide_eq_true c53
                      clear c53
                      have H' := Aside0.mk H
                      clear H
                      go_wp2
                      go_roundg k2
                      case measure => have := HJ4.out; have := HK2.out; omega
                      case rel => exact ⟨(Go.bits .or .u64 (x13_2 / 2) (Go.bits .and .u64 x13_2 ji52)), (IntKind.u64.wrap (x15_2 + 1)), (by first | rfl | (simp; done) | (simp only [← hji52] <;> (first | rfl | simp)) | (simp [*]; done)), eq_now, H', ⟨by have := HJ4.out; have := HK2.out; omega⟩, by repeat (first | exact Drawn0.refl _ | apply Drawn0.step)⟩
                     ·rw [if_neg c53] at H
                      have c53b0 : decide (x15_2 < (Int.tmod t137 t138)) = false := decide_eq_false c53
                      clear c53
                      replace H := Option.bind_eq_some_iff.mp H; obtain ⟨t154, A540, H⟩ := H; try dsimp only at H
                      have A54 := Aside0.mk A540
                      clear A540
                      simp only [Option.some.injEq, Prod.mk.injEq] at H
                      obtain ⟨rfl, rfl⟩ := H
                      go_wp2_with (first | ((with_reducible refine gate_callee (f := 30) rfl ?_); refine sh_call (some 117) Try.func30 #[.bool a1, .int .u64 x13_2] ?_; (with_reducible refine (stockaderef01_Fit.calls a1 x13_2 t154 _ A54.out).mono ?_); rintro e w' ⟨rfl, ⟨nd, rfl⟩⟩; refine ⟨_, rfl, ?_⟩))
                      go_ret2
                      exact ⟨by first | rfl | (simp; done) | (simp only [← hji50, ← hji52] <;> (first | rfl | simp)) | (simp [*]; done), by repeat (first | exact Drawn0.refl _ | apply Drawn0.step)⟩
                  ·rw [if_neg c51] at H
                   exact absurd H (by simp)
                 ·rw [if_neg c48] at H
                  have c48b0 : (a0 == 12) = false := beq_eq_false_iff_ne.mpr c48
                  have c48b1 : (a0 != 12) = true := bne_iff_ne.mpr c48
                  replace H := Option.bind_eq_some_iff.mp H; obtain ⟨t155, A550, H⟩ := H; try dsimp only at H
                  have A55 := Aside0.mk A550
                  clear A550
                  simp only [Option.some.injEq, Prod.mk.injEq] at H
                  obtain ⟨rfl, rfl⟩ := H
                  go_wp2_with (first | ((with_reducible refine gate_callee (f := 30) rfl ?_); refine sh_call (some 25) Try.func30 #[.bool a1, .int .u64 a2] ?_; (with_reducible refine (stockaderef01_Fit.calls a1 a2 t136 _ A8.out).mono ?_); rintro e w' ⟨rfl, ⟨nd, rfl⟩⟩; refine ⟨_, rfl, ?_⟩) | ((with_reducible refine gate_callee (f := 30) rfl ?_); refine sh_call (some 28) Try.func30 #[.bool a1, .int .u64 a3] ?_; (with_reducible refine (stockaderef01_Fit.calls a1 a3 t137 _ A9.out).mono ?_); rintro e w' ⟨rfl, ⟨nd, rfl⟩⟩; refine ⟨_, rfl, ?_⟩) | ((with_reducible refine gate_callee (f := 31) rfl ?_); refine sh_call (some 31) Try.func31 #[.bool a1] ?_; (with_reducible refine (stockaderef01_Size.calls a1 t138 _ A10.out).mono ?_); rintro e w' ⟨rfl, ⟨nd, rfl⟩⟩; refine ⟨_, rfl, ?_⟩) | ((with_reducible refine gate_callee (f := 30) rfl ?_); refine sh_call (some 117) Try.func30 #[.bool a1, .int .u64 0] ?_; (with_reducible refine (stockaderef01_Fit.calls a1 0 t155 _ A55.out).mono ?_); rintro e w' ⟨rfl, ⟨nd, rfl⟩⟩; refine ⟨_, rfl, ?_⟩))
                  go_ret2
                  exact ⟨by first | rfl | (simp; done) | (simp [*]; done), by repeat (first | exact Drawn0.refl _ | apply Drawn0.step)⟩

/-! ### word_signed: function 32 -/
def word_signed.f (a0 : Int) (a1 : Bool) : Option (Int) := if a1 = true then (some (wrap64 (a0))) else (some (wrap64 (wrap32 (a0))))
set_option maxHeartbeats 8000000 in
set_option maxRecDepth 100000 in
theorem word_signed.calls (a0 : Int) (a1 : Bool) (r : Int) (w : World) (h : word_signed.f a0 a1 = some r) :
  Calls Try.prog 32 #[.int .u64 a0, .bool a1] w fun e w' => e = .returned (.int .i64 r) ∧ Drawn0 w w' := by
 have H : (if a1 = true then (some (wrap64 (a0))) else (some (wrap64 (wrap32 (a0))))) = some r := h
 clear h
 by_cases c3 : a1 = true
 ·subst c3
  replace H := sh_t H
  obtain rfl := Option.some.inj H
  go_enter Try.func32, Try.ntmps32
  go_wp2
  go_ret
  exact ⟨by first | rfl | (simp; done) | (simp [*]; done), by repeat (first | exact Drawn0.refl _ | apply Drawn0.step)⟩
 ·replace c3 := Bool.eq_false_iff.mpr c3
  subst c3
  replace H := sh_f H
  obtain rfl := Option.some.inj H
  go_enter Try.func32, Try.ntmps32
  go_wp2
  go_ret
  exact ⟨by first | rfl | (simp; done) | (simp [*]; done), by repeat (first | exact Drawn0.refl _ | apply Drawn0.step)⟩

/-! ### word_Cond: function 16 -/
def word_Cond.j0 : Nat → Int → Bool → Int → Int → Option (Bool × Int)
 | 0, _, _, _, _ => none
 | k + 1, x0, x1, x2, x3 => (word_signed.f x2 x1).bind fun t158 => ((word_signed.f x3 x1).bind fun t159 => (if x0 = 1 then (some ((x2 == x3), 0)) else (if x0 = 5 then (some ((x2 != x3), 0)) else (if x0 = 2 then (some (decide (x2 > x3), 0)) else (if x0 = 3 then (some (decide (x2 ≥ x3), 0)) else (if x0 = 10 then (some (decide (x2 < x3), 0)) else (if x0 = 11 then (some (decide (x2 ≤ x3), 0)) else (if x0 = 4 then (some (((Go.bits .and .u64 x2 x3) != 0), 0)) else (if x0 = 6 then (some (decide (t158 > t159), 0)) else (if x0 = 7 then (some (decide (t158 ≥ t159), 0)) else (if x0 = 12 then (some (decide (t158 < t159), 0)) else (if x0 = 13 then (some (decide (t158 ≤ t159), 0)) else (some (false, 20))))))))))))))
def word_Cond.f (k : Nat) (a0 : Int) (a1 : Bool) (a2 : Int) (a3 : Int) : Option (Bool × Int) := if a1 = true then (word_Cond.j0 k a0 a1 a2 a3) else ((word_half.f a2).bind fun t156 => ((word_half.f a3).bind fun t157 => (word_Cond.j0 k a0 a1 t156 t157)))
theorem word_Cond.mono_l : ∀ k, (∀ y0 y1 y2 y3, LeO (word_Cond.j0 k y0 y1 y2 y3) (word_Cond.j0 (k + 1) y0 y1 y2 y3))
 | 0 => fun _ _ _ _ r h => by simp [word_Cond.j0] at h
 | k + 1 => by
  have ih0 := word_Cond.mono_l k
  ·intro y0 y1 y2 y3
   unfold word_Cond.j0
   repeat' first
   | (with_reducible exact ih0 _ _ _ _)
   | (with_reducible exact LeO.refl _)
   | (with_reducible exact LeO.none _)
   | (with_reducible refine LeO.ite ?_ ?_)
   | (with_reducible refine LeO.bind ?_ (fun _ => ?_))
   | exact ih0 _ _ _ _
   | exact LeO.none _
   | refine LeO.ite ?_ ?_
   | refine LeO.bind ?_ (fun _ => ?_)
theorem word_Cond.mono : ∀ a0 a1 a2 a3 k, LeO (word_Cond.f k a0 a1 a2 a3) (word_Cond.f (k + 1) a0 a1 a2 a3) := by
 intro a0 a1 a2 a3 k
 have ih0 := word_Cond.mono_l k
 unfold word_Cond.f
 repeat' first
   | (with_reducible exact ih0 _ _ _ _)
   | (with_reducible exact LeO.refl _)
   | (with_reducible exact LeO.none _)
   | (with_reducible refine LeO.ite ?_ ?_)
   | (with_reducible refine LeO.bind ?_ (fun _ => ?_))
   | exact ih0 _ _ _ _
   | exact LeO.none _
   | refine LeO.ite ?_ ?_
   | refine LeO.bind ?_ (fun _ => ?_)
set_option maxHeartbeats 8000000 in
set_option maxRecDepth 100000 in
theorem word_Cond.calls (k : Nat) (a0 : Int) (a1 : Bool) (a2 : Int) (a3 : Int) (r1 : Bool) (r2 : Int) (w : World) (h : word_Cond.f k a0 a1 a2 a3 = some (r1, r2)) :
  Calls Try.prog 16 #[.int .i64 a0, .bool a1, .int .u64 a2, .int .u64 a3] w fun e w' => e = .returned (.tuple #[.bool r1, .int .i64 r2]) ∧ Drawn0 w w' := by
 have H : (if a1 = true then (word_Cond.j0 k a0 a1 a2 a3) else ((word_half.f a2).bind fun t156 => ((word_half.f a3).bind fun t157 => (word_Cond.j0 k a0 a1 t156 t157)))) = some (r1, r2) := h
 clear h
 have HC5 := Aside0.mk H
 clear H
 go_enter Try.func16, Try.ntmps16
 go_upto_if 13 with (fail)
 go_cut [2, 3] (fun v2 v3 wc => ∃ (kq : Nat) (x2_4 : Int) (x3_4 : Int), v2 = .int .u64 x2_4 ∧ v3 = .int .u64 x3_4 ∧ Aside0 (word_Cond.j0 kq a0 a1 x2_4 x3_4 = some (r1, r2)) ∧ Aside0 (kq ≤ k) ∧ Drawn0 w wc)
 case first =>
  have H := HC5.out
  clear HC5
  by_cases c6 : a1 = true
  ·subst c6
   replace H := sh_t H
   have H' := Aside0.mk H
   clear H
   go_wp2
   go_meet
   case rel => exact ⟨_, (a2), (a3), eq_now, eq_now, H', ⟨by first | omega | exact Nat.le_refl _⟩, by repeat (first | exact Drawn0.refl _ | apply Drawn0.step)⟩
  ·replace c6 := Bool.eq_false_iff.mpr c6
   subst c6
   replace H := sh_f H
   replace H := Option.bind_eq_some_iff.mp H; obtain ⟨t156, A70, H⟩ := H; try dsimp only at H
   have A7 := Aside0.mk A70
   clear A70
   replace H := Option.bind_eq_some_iff.mp H; obtain ⟨t157, A80, H⟩ := H; try dsimp only at H
   have A8 := Aside0.mk A80
   clear A80
   have H' := Aside0.mk H
   clear H
   go_wp2_with (first | ((with_reducible refine gate_callee (f := 28) rfl ?_); refine sh_call (some 15) Try.func28 #[.int .u64 a2] ?_; (with_reducible refine (word_half.calls a2 t156 _ A7.out).mono ?_); rintro e w' ⟨rfl, ⟨nd, rfl⟩⟩; refine ⟨_, rfl, ?_⟩) | ((with_reducible refine gate_callee (f := 28) rfl ?_); refine sh_call (some 17) Try.func28 #[.int .u64 a3] ?_; (with_reducible refine (word_half.calls a3 t157 _ A8.out).mono ?_); rintro e w' ⟨rfl, ⟨nd, rfl⟩⟩; refine ⟨_, rfl, ?_⟩))
   go_meet
   case rel => exact ⟨_, (t156), (t157), eq_now, eq_now, H', ⟨by first | omega | exact Nat.le_refl _⟩, by repeat (first | exact Drawn0.refl _ | apply Drawn0.step)⟩
 case rest =>
  clear HC5
  try clear c1
  try clear c2
  try clear p2
  try clear c6
  obtain ⟨kq, x2_4, x3_4, rfl, rfl, HA, HJ4, ⟨mc4, rfl⟩⟩ := hcut
  cases kq with
  | zero => exact absurd HA.out (by simp [word_Cond.j0])
  | succ kj4 =>
   have H := HA.out
   clear HA
   simp only [word_Cond.j0] at H
   replace H := Option.bind_eq_some_iff.mp H; obtain ⟨t158, A90, H⟩ := H; try dsimp only at H
   have A9 := Aside0.mk A90
   clear A90
   replace H := Option.bind_eq_some_iff.mp H; obtain ⟨t159, A100, H⟩ := H; try dsimp only at H
   have A10 := Aside0.mk A100
   clear A100
   by_cases c11 : a0 = 1
   ·rw [if_pos c11] at H
    have c11b0 : (a0 == 1) = true := beq_iff_eq.mpr c11
    have c11b1 : (a0 != 1) = false := bne_eq_false_iff_eq.mpr c11
    clear c11
    simp only [Option.some.injEq, Prod.mk.injEq] at H
    obtain ⟨rfl, rfl⟩ := H
    go_wp2_with (first | ((with_reducible refine gate_callee (f := 32) rfl ?_); refine sh_call (some 20) Try.func32 #[.int .u64 x2_4, .bool a1] ?_; (with_reducible refine (word_signed.calls x2_4 a1 t158 _ A9.out).mono ?_); rintro e w' ⟨rfl, ⟨nd, rfl⟩⟩; refine ⟨_, rfl, ?_⟩) | ((with_reducible refine gate_callee (f := 32) rfl ?_); refine sh_call (some 23) Try.func32 #[.int .u64 x3_4, .bool a1] ?_; (with_reducible refine (word_signed.calls x3_4 a1 t159 _ A10.out).mono ?_); rintro e w' ⟨rfl, ⟨nd, rfl⟩⟩; refine ⟨_, rfl, ?_⟩))
    go_ret2
    exact ⟨by first | rfl | (simp; done) | (simp [*]; done), by repeat (first | exact Drawn0.refl _ | apply Drawn0.step)⟩
   ·rw [if_neg c11] at H
    have c11b0 : (a0 == 1) = false := beq_eq_false_iff_ne.mpr c11
    have c11b1 : (a0 != 1) = true := bne_iff_ne.mpr c11
    by_cases c12 : a0 = 5
    ·rw [if_pos c12] at H
     have c12b0 : (a0 == 5) = true := beq_iff_eq.mpr c12
     have c12b1 : (a0 != 5) = false := bne_eq_false_iff_eq.mpr c12
     clear c12
     simp only [Option.some.injEq, Prod.mk.injEq] at H
     obtain ⟨rfl, rfl⟩ := H
     go_wp2_with (first | ((with_reducible refine gate_callee (f := 32) rfl ?_); refine sh_call (some 20) Try.func32 #[.int .u64 x2_4, .bool a1] ?_; (with_reducible refine (word_signed.calls x2_4 a1 t158 _ A9.out).mono ?_); rintro e w' ⟨rfl, ⟨nd, rfl⟩⟩; refine ⟨_, rfl, ?_⟩) | ((with_reducible refine gate_callee (f := 32) rfl ?_); refine sh_call (some 23) Try.func32 #[.int .u64 x3_4, .bool a1] ?_; (with_reducible refine (word_signed.calls x3_4 a1 t159 _ A10.out).mono ?_); rintro e w' ⟨rfl, ⟨nd, rfl⟩⟩; refine ⟨_, rfl, ?_⟩))
     go_ret2
     exact ⟨by first | rfl | (simp; done) | (simp [*]; done), by repeat (first | exact Drawn0.refl _ | apply Drawn0.step)⟩
    ·rw [if_neg c12] at H
     have c12b0 : (a0 == 5) = false := beq_eq_false_iff_ne.mpr c12
     have c12b1 : (a0 != 5) = true := bne_iff_ne.mpr c12
     by_cases c13 : a0 = 2
     ·rw [if_pos c13] at H
      have c13b0 : (a0 == 2) = true := beq_iff_eq.mpr c13
      have c13b1 : (a0 != 2) = false := bne_eq_false_iff_eq.mpr c13
      clear c13
      simp only [Option.some.injEq, Prod.mk.injEq] at H
      obtain ⟨rfl, rfl⟩ := H
      go_wp2_with (first | ((with_reducible refine gate_callee (f := 32) rfl ?_); refine sh_call (some 20) Try.func32 #[.int .u64 x2_4, .bool a1] ?_; (with_reducible refine (word_signed.calls x2_4 a1 t158 _ A9.out).mono ?_); rintro e w' ⟨rfl, ⟨nd, rfl⟩⟩; refine ⟨_, rfl, ?_⟩) | ((with_reducible refine gate_callee (f := 32) rfl ?_); refine sh_call (some 23) Try.func32 #[.int .u64 x3_4, .bool a1] ?_; (with_reducible refine (word_signed.calls x3_4 a1 t159 _ A10.out).mono ?_); rintro e w' ⟨rfl, ⟨nd, rfl⟩⟩; refine ⟨_, rfl, ?_⟩))
      go_ret2
      exact ⟨by first | rfl | (simp; done) | (simp [*]; done), by repeat (first | exact Drawn0.refl _ | apply Drawn0.step)⟩
     ·rw [if_neg c13] at H
      have c13b0 : (a0 == 2) = false := beq_eq_false_iff_ne.mpr c13
      have c13b1 : (a0 != 2) = true := bne_iff_ne.mpr c13
      by_cases c14 : a0 = 3
      ·rw [if_pos c14] at H
       have c14b0 : (a0 == 3) = true := beq_iff_eq.mpr c14
       have c14b1 : (a0 != 3) = false := bne_eq_false_iff_eq.mpr c14
       clear c14
       simp only [Option.some.injEq, Prod.mk.injEq] at H
       obtain ⟨rfl, rfl⟩ := H
       go_wp2_with (first | ((with_reducible refine gate_callee (f := 32) rfl ?_); refine sh_call (some 20) Try.func32 #[.int .u64 x2_4, .bool a1] ?_; (with_reducible refine (word_signed.calls x2_4 a1 t158 _ A9.out).mono ?_); rintro e w' ⟨rfl, ⟨nd, rfl⟩⟩; refine ⟨_, rfl, ?_⟩) | ((with_reducible refine gate_callee (f := 32) rfl ?_); refine sh_call (some 23) Try.func32 #[.int .u64 x3_4, .bool a1] ?_; (with_reducible refine (word_signed.calls x3_4 a1 t159 _ A10.out).mono ?_); rintro e w' ⟨rfl, ⟨nd, rfl⟩⟩; refine ⟨_, rfl, ?_⟩))
       go_ret2
       exact ⟨by first | rfl | (simp; done) | (simp [*]; done), by repeat (first | exact Drawn0.refl _ | apply Drawn0.step)⟩
      ·rw [if_neg c14] at H
       have c14b0 : (a0 == 3) = false := beq_eq_false_iff_ne.mpr c14
       have c14b1 : (a0 != 3) = true := bne_iff_ne.mpr c14
       by_cases c15 : a0 = 10
       ·rw [if_pos c15] at H
        have c15b0 : (a0 == 10) = true := beq_iff_eq.mpr c15
        have c15b1 : (a0 != 10) = false := bne_eq_false_iff_eq.mpr c15
        clear c15
        simp only [Option.some.injEq, Prod.mk.injEq] at H
        obtain ⟨rfl, rfl⟩ := H
        go_wp2_with (first | ((with_reducible refine gate_callee (f := 32) rfl ?_); refine sh_call (some 20) Try.func32 #[.int .u64 x2_4, .bool a1] ?_; (with_reducible refine (word_signed.calls x2_4 a1 t158 _ A9.out).mono ?_); rintro e w' ⟨rfl, ⟨nd, rfl⟩⟩; refine ⟨_, rfl, ?_⟩) | ((with_reducible refine gate_callee (f := 32) rfl ?_); refine sh_call (some 23) Try.func32 #[.int .u64 x3_4, .bool a1] ?_; (with_reducible refine (word_signed.calls x3_4 a1 t159 _ A10.out).mono ?_); rintro e w' ⟨rfl, ⟨nd, rfl⟩⟩; refine ⟨_, rfl, ?_⟩))
        go_ret2
        exact ⟨by first | rfl | (simp; done) | (simp [*]; done), by repeat (first | exact Drawn0.refl _ | apply Drawn0.step)⟩
       ·rw [if_neg c15] at H
        have c15b0 : (a0 == 10) = false := beq_eq_false_iff_ne.mpr c15
        have c15b1 : (a0 != 10) = true := bne_iff_ne.mpr c15
        by_cases c16 : a0 = 11
        ·rw [if_pos c16] at H
         have c16b0 : (a0 == 11) = true := beq_iff_eq.mpr c16
         have c16b1 : (a0 != 11) = false := bne_eq_false_iff_eq.mpr c16
         clear c16
         simp only [Option.some.injEq, Prod.mk.injEq] at H
         obtain ⟨rfl, rfl⟩ := H
         go_wp2_with (first | ((with_reducible refine gate_callee (f := 32) rfl ?_); refine sh_call (some 20) Try.func32 #[.int .u64 x2_4, .bool a1] ?_; (with_reducible refine (word_signed.calls x2_4 a1 t158 _ A9.out).mono ?_); rintro e w' ⟨rfl, ⟨nd, rfl⟩⟩; refine ⟨_, rfl, ?_⟩) | ((with_reducible refine gate_callee (f := 32) rfl ?_); refine sh_call (some 23) Try.func32 #[.int .u64 x3_4, .bool a1] ?_; (with_reducible refine (word_signed.calls x3_4 a1 t159 _ A10.out).mono ?_); rintro e w' ⟨rfl, ⟨nd, rfl⟩⟩; refine ⟨_, rfl, ?_⟩))
         go_ret2
         exact ⟨by first | rfl | (simp; done) | (simp [*]; done), by repeat (first | exact Drawn0.refl _ | apply Drawn0.step)⟩
        ·rw [if_neg c16] at H
         have c16b0 : (a0 == 11) = false := beq_eq_false_iff_ne.mpr c16
         have c16b1 : (a0 != 11) = true := bne_iff_ne.mpr c16
         by_cases c17 : a0 = 4
         ·rw [if_pos c17] at H
          have c17b0 : (a0 == 4) = true := beq_iff_eq.mpr c17
          have c17b1 : (a0 != 4) = false := bne_eq_false_iff_eq.mpr c17
          clear c17
          simp only [Option.some.injEq, Prod.mk.injEq] at H
          obtain ⟨rfl, rfl⟩ := H
          go_wp2_with (first | ((with_reducible refine gate_callee (f := 32) rfl ?_); refine sh_call (some 20) Try.func32 #[.int .u64 x2_4, .bool a1] ?_; (with_reducible refine (word_signed.calls x2_4 a1 t158 _ A9.out).mono ?_); rintro e w' ⟨rfl, ⟨nd, rfl⟩⟩; refine ⟨_, rfl, ?_⟩) | ((with_reducible refine gate_callee (f := 32) rfl ?_); refine sh_call (some 23) Try.func32 #[.int .u64 x3_4, .bool a1] ?_; (with_reducible refine (word_signed.calls x3_4 a1 t159 _ A10.out).mono ?_); rintro e w' ⟨rfl, ⟨nd, rfl⟩⟩; refine ⟨_, rfl, ?_⟩))
          go_ret2
          exact ⟨by first | rfl | (simp; done) | (simp [*]; done), by repeat (first | exact Drawn0.refl _ | apply Drawn0.step)⟩
         ·rw [if_neg c17] at H
          have c17b0 : (a0 == 4) = false := beq_eq_false_iff_ne.mpr c17
          have c17b1 : (a0 != 4) = true := bne_iff_ne.mpr c17
          by_cases c18 : a0 = 6
          ·rw [if_pos c18] at H
           have c18b0 : (a0 == 6) = true := beq_iff_eq.mpr c18
           have c18b1 : (a0 != 6) = false := bne_eq_false_iff_eq.mpr c18
           clear c18
           simp only [Option.some.injEq, Prod.mk.injEq] at H
           obtain ⟨rfl, rfl⟩ := H
           go_wp2_with (first | ((with_reducible refine gate_callee (f := 32) rfl ?_); refine sh_call (some 20) Try.func32 #[.int .u64 x2_4, .bool a1] ?_; (with_reducible refine (word_signed.calls x2_4 a1 t158 _ A9.out).mono ?_); rintro e w' ⟨rfl, ⟨nd, rfl⟩⟩; refine ⟨_, rfl, ?_⟩) | ((with_reducible refine gate_callee (f := 32) rfl ?_); refine sh_call (some 23) Try.func32 #[.int .u64 x3_4, .bool a1] ?_; (with_reducible refine (word_signed.calls x3_4 a1 t159 _ A10.out).mono ?_); rintro e w' ⟨rfl, ⟨nd, rfl⟩⟩; refine ⟨_, rfl, ?_⟩))
           go_ret2
           exact ⟨by first | rfl | (simp; done) | (simp [*]; done), by repeat (first | exact Drawn0.refl _ | apply Drawn0.step)⟩
          ·rw [if_neg c18] at H
           have c18b0 : (a0 == 6) = false := beq_eq_false_iff_ne.mpr c18
           have c18b1 : (a0 != 6) = true := bne_iff_ne.mpr c18
           by_cases c19 : a0 = 7
           ·rw [if_pos c19] at H
            have c19b0 : (a0 == 7) = true := beq_iff_eq.mpr c19
            have c19b1 : (a0 != 7) = false := bne_eq_false_iff_eq.mpr c19
            clear c19
            simp only [Option.some.injEq, Prod.mk.injEq] at H
            obtain ⟨rfl, rfl⟩ := H
            go_wp2_with (first | ((with_reducible refine gate_callee (f := 32) rfl ?_); refine sh_call (some 20) Try.func32 #[.int .u64 x2_4, .bool a1] ?_; (with_reducible refine (word_signed.calls x2_4 a1 t158 _ A9.out).mono ?_); rintro e w' ⟨rfl, ⟨nd, rfl⟩⟩; refine ⟨_, rfl, ?_⟩) | ((with_reducible refine gate_callee (f := 32) rfl ?_); refine sh_call (some 23) Try.func32 #[.int .u64 x3_4, .bool a1] ?_; (with_reducible refine (word_signed.calls x3_4 a1 t159 _ A10.out).mono ?_); rintro e w' ⟨rfl, ⟨nd, rfl⟩⟩; refine ⟨_, rfl, ?_⟩))
            go_ret2
            exact ⟨by first | rfl | (simp; done) | (simp [*]; done), by repeat (first | exact Drawn0.refl _ | apply Drawn0.step)⟩
           ·rw [if_neg c19] at H
            have c19b0 : (a0 == 7) = false := beq_eq_false_iff_ne.mpr c19
            have c19b1 : (a0 != 7) = true := bne_iff_ne.mpr c19
            by_cases c20 : a0 = 12
            ·rw [if_pos c20] at H
             have c20b0 : (a0 == 12) = true := beq_iff_eq.mpr c20
             have c20b1 : (a0 != 12) = false := bne_eq_false_iff_eq.mpr c20
             clear c20
             simp only [Option.some.injEq, Prod.mk.injEq] at H
             obtain ⟨rfl, rfl⟩ := H
             go_wp2_with (first | ((with_reducible refine gate_callee (f := 32) rfl ?_); refine sh_call (some 20) Try.func32 #[.int .u64 x2_4, .bool a1] ?_; (with_reducible refine (word_signed.calls x2_4 a1 t158 _ A9.out).mono ?_); rintro e w' ⟨rfl, ⟨nd, rfl⟩⟩; refine ⟨_, rfl, ?_⟩) | ((with_reducible refine gate_callee (f := 32) rfl ?_); refine sh_call (some 23) Try.func32 #[.int .u64 x3_4, .bool a1] ?_; (with_reducible refine (word_signed.calls x3_4 a1 t159 _ A10.out).mono ?_); rintro e w' ⟨rfl, ⟨nd, rfl⟩⟩; refine ⟨_, rfl, ?_⟩))
             go_ret2
             exact ⟨by first | rfl | (simp; done) | (simp [*]; done), by repeat (first | exact Drawn0.refl _ | apply Drawn0.step)⟩
            ·rw [if_neg c20] at H
             have c20b0 : (a0 == 12) = false := beq_eq_false_iff_ne.mpr c20
             have c20b1 : (a0 != 12) = true := bne_iff_ne.mpr c20
             by_cases c21 : a0 = 13
             ·rw [if_pos c21] at H
              have c21b0 : (a0 == 13) = true := beq_iff_eq.mpr c21
              have c21b1 : (a0 != 13) = false := bne_eq_false_iff_eq.mpr c21
              clear c21
              simp only [Option.some.injEq, Prod.mk.injEq] at H
              obtain ⟨rfl, rfl⟩ := H
              go_wp2_with (first | ((with_reducible refine gate_callee (f := 32) rfl ?_); refine sh_call (some 20) Try.func32 #[.int .u64 x2_4, .bool a1] ?_; (with_reducible refine (word_signed.calls x2_4 a1 t158 _ A9.out).mono ?_); rintro e w' ⟨rfl, ⟨nd, rfl⟩⟩; refine ⟨_, rfl, ?_⟩) | ((with_reducible refine gate_callee (f := 32) rfl ?_); refine sh_call (some 23) Try.func32 #[.int .u64 x3_4, .bool a1] ?_; (with_reducible refine (word_signed.calls x3_4 a1 t159 _ A10.out).mono ?_); rintro e w' ⟨rfl, ⟨nd, rfl⟩⟩; refine ⟨_, rfl, ?_⟩))
              go_ret2
              exact ⟨by first | rfl | (simp; done) | (simp [*]; done), by repeat (first | exact Drawn0.refl _ | apply Drawn0.step)⟩
             ·rw [if_neg c21] at H
              have c21b0 : (a0 == 13) = false := beq_eq_false_iff_ne.mpr c21
              have c21b1 : (a0 != 13) = true := bne_iff_ne.mpr c21
              simp only [Option.some.injEq, Prod.mk.injEq] at H
              obtain ⟨rfl, rfl⟩ := H
              go_wp2_with (first | ((with_reducible refine gate_callee (f := 32) rfl ?_); refine sh_call (some 20) Try.func32 #[.int .u64 x2_4, .bool a1] ?_; (with_reducible refine (word_signed.calls x2_4 a1 t158 _ A9.out).mono ?_); rintro e w' ⟨rfl, ⟨nd, rfl⟩⟩; refine ⟨_, rfl, ?_⟩) | ((with_reducible refine gate_callee (f := 32) rfl ?_); refine sh_call (some 23) Try.func32 #[.int .u64 x3_4, .bool a1] ?_; (with_reducible refine (word_signed.calls x3_4 a1 t159 _ A10.out).mono ?_); rintro e w' ⟨rfl, ⟨nd, rfl⟩⟩; refine ⟨_, rfl, ?_⟩))
              go_ret2
              exact ⟨by first | rfl | (simp; done) | (simp [*]; done), by repeat (first | exact Drawn0.refl _ | apply Drawn0.step)⟩

/-! ### bits_ReverseBytes64: function 34 -/
def bits_ReverseBytes64.f (a0 : Int) : Option (Int) := some (Go.bits .or .u64 ((Go.bits .or .u64 (Go.bits .and .u64 ((Go.bits .or .u64 (Go.bits .and .u64 (a0 / 256) 71777214294589695) (IntKind.u64.wrap ((Go.bits .and .u64 a0 71777214294589695) * 256))) / 65536) 281470681808895) (IntKind.u64.wrap ((Go.bits .and .u64 (Go.bits .or .u64 (Go.bits .and .u64 (a0 / 256) 71777214294589695) (IntKind.u64.wrap ((Go.bits .and .u64 a0 71777214294589695) * 256))) 281470681808895) * 65536))) / 4294967296) (IntKind.u64.wrap ((Go.bits .or .u64 (Go.bits .and .u64 ((Go.bits .or .u64 (Go.bits .and .u64 (a0 / 256) 71777214294589695) (IntKind.u64.wrap ((Go.bits .and .u64 a0 71777214294589695) * 256))) / 65536) 281470681808895) (IntKind.u64.wrap ((Go.bits .and .u64 (Go.bits .or .u64 (Go.bits .and .u64 (a0 / 256) 71777214294589695) (IntKind.u64.wrap ((Go.bits .and .u64 a0 71777214294589695) * 256))) 281470681808895) * 65536))) * 4294967296)))
set_option maxHeartbeats 8000000 in
set_option maxRecDepth 100000 in
theorem bits_ReverseBytes64.calls (a0 : Int) (r : Int) (w : World) (h : bits_ReverseBytes64.f a0 = some r) :
  Calls Try.prog 34 #[.int .u64 a0] w fun e w' => e = .returned (.int .u64 r) ∧ Drawn0 w w' := by
 have H : (some (Go.bits .or .u64 ((Go.bits .or .u64 (Go.bits .and .u64 ((Go.bits .or .u64 (Go.bits .and .u64 (a0 / 256) 71777214294589695) (IntKind.u64.wrap ((Go.bits .and .u64 a0 71777214294589695) * 256))) / 65536) 281470681808895) (IntKind.u64.wrap ((Go.bits .and .u64 (Go.bits .or .u64 (Go.bits .and .u64 (a0 / 256) 71777214294589695) (IntKind.u64.wrap ((Go.bits .and .u64 a0 71777214294589695) * 256))) 281470681808895) * 65536))) / 4294967296) (IntKind.u64.wrap ((Go.bits .or .u64 (Go.bits .and .u64 ((Go.bits .or .u64 (Go.bits .and .u64 (a0 / 256) 71777214294589695) (IntKind.u64.wrap ((Go.bits .and .u64 a0 71777214294589695) * 256))) / 65536) 281470681808895) (IntKind.u64.wrap ((Go.bits .and .u64 (Go.bits .or .u64 (Go.bits .and .u64 (a0 / 256) 71777214294589695) (IntKind.u64.wrap ((Go.bits .and .u64 a0 71777214294589695) * 256))) 281470681808895) * 65536))) * 4294967296)))) = some r := h
 clear h
 obtain rfl := Option.some.inj H
 go_enter Try.func34, Try.ntmps34
 go_wp2
 go_ret
 exact ⟨by first | rfl | (simp; done) | (simp [*]; done), by repeat (first | exact Drawn0.refl _ | apply Drawn0.step)⟩

end Go.Proofs.Ytgmgnlmhfhdfgaa.P
