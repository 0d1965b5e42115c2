/- Made by this session's driver over the kit's printer: for each Go function a Lean function with the same answers, and a proof that the Go call comes to these answers; no conditions but the ones each theorem names. -/
import Derived.Test.YtondogoepcndiaaDoorPx0
import Derived.Test.YtondogoepcndiaaDoorPxXXIt
namespace Go.Proofs.YtondogoepcndiaaDoor.P
open Go.RowKit Go.Proofs.YtondogoepcndiaaDoorW.PrintWords Go.Proofs.YtondogoepcndiaaDoorW.PrintLast Go.Proofs.YtondogoepcndiaaDoorW.PrintMore
attribute [local go_sem] max2_int min2_int max_two min_two max_three min_three max_four min_four   -- for this text's walks alone
set_option linter.unusedVariables false
set_option linter.unusedSimpArgs false

/-! ### asm_reg: function 28 -/
def asm_reg.f (a0 : Int) : Option (ByteArray) := (strconv_Itoa_29.f (wrap64 (a0))).bind fun t147 => (if 1 + t147.size ≤ 9223372036854775807 then (some ((⟨#[114]⟩ : ByteArray) ++ t147)) else (none))
set_option maxHeartbeats 8000000 in
set_option maxRecDepth 100000 in
theorem asm_reg.calls (a0 : Int) (r : ByteArray) (w : World) (hrG3 : Kd.C kGF w (some ⟨3, 0, none⟩) gl3.length gl3) (h : asm_reg.f a0 = some r) :
  Calls Tryd.prog 28 #[.int .u8 a0] w fun e w' => e = .returned (.string r) ∧ Below w.heap.size w w' := by
 have HRG3 := Aside0.mk hrG3
 clear hrG3
 have HB := Aside0.mk (Below.refl w.heap.size w)
 have H : ((strconv_Itoa_29.f (wrap64 (a0))).bind fun t147 => (if 1 + t147.size ≤ 9223372036854775807 then (some ((⟨#[114]⟩ : ByteArray) ++ t147)) else (none))) = some r := h
 clear h
 obtain ⟨t147, A2, H⟩ := bs_ H; try dsimp only at H
 by_cases c3 : 1 + t147.size ≤ 9223372036854775807
 ·rw [if_pos c3] at H
  have c3b0 := eq_true c3
  have c3b1 : decide (1 + t147.size ≤ 9223372036854775807) = true := decide_eq_true c3
  try have c3b2 : (9223372036854775807 < 1 + t147.size) = False := eq_false (Nat.not_lt.2 c3)
  obtain rfl := Option.some.inj H
  go_enter Tryd.func28, Tryd.ntmps28
  go_wp2_with (first | ((with_reducible refine gate_callee (f := 29) rfl ?_); refine sh_call (some 5) Tryd.func29 #[.int .i64 (wrap64 (a0))] ?_; (with_reducible refine (strconv_Itoa_29.calls (wrap64 (a0)) t147 _ ?side1 A2.out).mono ?_); (case side1 => repeat (first | exact HRG3.out | (with_reducible refine Kd.C_alloc ?_ _) | (with_reducible refine Kd.C_drewN ?_ _) | (with_reducible refine Kd.C_drew ?_))); rintro e w4 ⟨rfl, hb⟩; refine ⟨_, rfl, ?_⟩; replace HB := sh_b (w := w) hb; (try clear hb); (try clear hb2); (try clear hk); (try clear hi)))
  go_ret
  exact ⟨ret_now, b_now⟩
 ·rw [if_neg c3] at H
  exact absurd H (by simp)

/-! ### asm_offset: function 30 -/
def asm_offset.f (a0 : Int) : Option (ByteArray) := if a0 < 0 then ((strconv_Itoa_29.f (wrap64 (a0))).bind fun t148 => (some t148)) else ((strconv_Itoa_29.f (wrap64 (a0))).bind fun t149 => (if 1 + t149.size ≤ 9223372036854775807 then (some ((⟨#[43]⟩ : ByteArray) ++ t149)) else (none)))
set_option maxHeartbeats 8000000 in
set_option maxRecDepth 100000 in
theorem asm_offset.calls (a0 : Int) (r : ByteArray) (w : World) (hrG3 : Kd.C kGF w (some ⟨3, 0, none⟩) gl3.length gl3) (h : asm_offset.f a0 = some r) :
  Calls Tryd.prog 30 #[.int .i16 a0] w fun e w' => e = .returned (.string r) ∧ Below w.heap.size w w' := by
 have HRG3 := Aside0.mk hrG3
 clear hrG3
 have HB := Aside0.mk (Below.refl w.heap.size w)
 have H : (if a0 < 0 then ((strconv_Itoa_29.f (wrap64 (a0))).bind fun t148 => (some t148)) else ((strconv_Itoa_29.f (wrap64 (a0))).bind fun t149 => (if 1 + t149.size ≤ 9223372036854775807 then (some ((⟨#[43]⟩ : ByteArray) ++ t149)) else (none)))) = some r := h
 clear h
 by_cases c2 : a0 < 0
 ·rw [if_pos c2] at H
  have c2b0 : decide (a0 < 0) = true := decide_eq_true c2
  clear c2
  obtain ⟨t148, A3, H⟩ := bs_ H; try dsimp only at H
  obtain rfl := Option.some.inj H
  go_enter Tryd.func30, Tryd.ntmps30
  go_wp2_with (first | ((with_reducible refine gate_callee (f := 29) rfl ?_); refine sh_call (some 7) Tryd.func29 #[.int .i64 (wrap64 (a0))] ?_; (with_reducible refine (strconv_Itoa_29.calls (wrap64 (a0)) t148 _ ?side1 A3.out).mono ?_); (case side1 => repeat (first | exact HRG3.out | (with_reducible refine Kd.C_alloc ?_ _) | (with_reducible refine Kd.C_drewN ?_ _) | (with_reducible refine Kd.C_drew ?_))); rintro e w4 ⟨rfl, hb⟩; refine ⟨_, rfl, ?_⟩; replace HB := sh_b (w := w) hb; (try clear hb); (try clear hb2); (try clear hk); (try clear hi)))
  go_ret
  exact ⟨ret_now, b_now⟩
 ·rw [if_neg c2] at H
  have c2b0 : decide (a0 < 0) = false := decide_eq_false c2
  clear c2
  obtain ⟨t149, A5, H⟩ := bs_ H; try dsimp only at H
  by_cases c6 : 1 + t149.size ≤ 9223372036854775807
  ·rw [if_pos c6] at H
   have c6b0 := eq_true c6
   have c6b1 : decide (1 + t149.size ≤ 9223372036854775807) = true := decide_eq_true c6
   try have c6b2 : (9223372036854775807 < 1 + t149.size) = False := eq_false (Nat.not_lt.2 c6)
   obtain rfl := Option.some.inj H
   go_enter Tryd.func30, Tryd.ntmps30
   go_wp2_with (first | ((with_reducible refine gate_callee (f := 29) rfl ?_); refine sh_call (some 10) Tryd.func29 #[.int .i64 (wrap64 (a0))] ?_; (with_reducible refine (strconv_Itoa_29.calls (wrap64 (a0)) t149 _ ?side1 A5.out).mono ?_); (case side1 => repeat (first | exact HRG3.out | (with_reducible refine Kd.C_alloc ?_ _) | (with_reducible refine Kd.C_drewN ?_ _) | (with_reducible refine Kd.C_drew ?_))); rintro e w7 ⟨rfl, hb⟩; refine ⟨_, rfl, ?_⟩; replace HB := sh_b (w := w) hb; (try clear hb); (try clear hb2); (try clear hk); (try clear hi)))
   go_ret
   exact ⟨ret_now, b_now⟩
  ·rw [if_neg c6] at H
   exact absurd H (by simp)

-- NOT PRINTED: function 48 (strconv_FormatUint_48)

end Go.Proofs.YtondogoepcndiaaDoor.P
