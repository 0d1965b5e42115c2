/- Made by this session's driver over the kit's printer: for each Go function a Lean function with the same answers, and a proof that the Go call comes to these answers; no conditions but the ones each theorem names. -/
import Derived.Test.YtgmgnlmhfhdfgaaPx0
namespace Go.Proofs.Ytgmgnlmhfhdfgaa.P
open Go.RowKit Go.Proofs.YtgmgnlmhfhdfgaaW.PrintWords Go.Proofs.YtgmgnlmhfhdfgaaW.PrintLast Go.Proofs.YtgmgnlmhfhdfgaaW.PrintMore
attribute [local go_sem] max2_int min2_int max_two min_two max_three min_three max_four min_four   -- for this text's walks alone
set_option linter.unusedVariables false
set_option linter.unusedSimpArgs false

/-! ### word_Alu_lit1: function 27 -/
def word_Alu_lit1.f (a0 : Int) : Option (Int) := some a0
set_option maxHeartbeats 8000000 in
set_option maxRecDepth 100000 in
theorem word_Alu_lit1.calls (a0 : Int) (r : Int) (w : World) (h : word_Alu_lit1.f a0 = some r) :
  Calls Try.prog 27 #[.int .u64 a0] w fun e w' => e = .returned (.int .u64 r) ∧ Drawn0 w w' := by
 have H : (some a0) = some r := h
 clear h
 obtain rfl := Option.some.inj H
 go_enter Try.func27, Try.ntmps27
 go_wp2
 go_ret
 exact ⟨by first | rfl | (simp; done) | (simp [*]; done), by repeat (first | exact Drawn0.refl _ | apply Drawn0.step)⟩

/-! ### word_half: function 28 -/
def word_half.f (a0 : Int) : Option (Int) := some (Go.bits .and .u64 a0 4294967295)
set_option maxHeartbeats 8000000 in
set_option maxRecDepth 100000 in
theorem word_half.calls (a0 : Int) (r : Int) (w : World) (h : word_half.f a0 = some r) :
  Calls Try.prog 28 #[.int .u64 a0] w fun e w' => e = .returned (.int .u64 r) ∧ Drawn0 w w' := by
 have H : (some (Go.bits .and .u64 a0 4294967295)) = some r := h
 clear h
 obtain rfl := Option.some.inj H
 go_enter Try.func28, Try.ntmps28
 go_wp2
 go_ret
 exact ⟨by first | rfl | (simp; done) | (simp [*]; done), by repeat (first | exact Drawn0.refl _ | apply Drawn0.step)⟩

/-! ### word_down: function 29 -/
def word_down.f (a0 : Int) (a1 : Int) (a2 : Int) : Option (Int) := if a2 = 32 then (if 0 ≤ a1 then ((word_half.f (IntKind.u64.wrap (shr .i32 (wrap32 (a0)) a1))).bind fun t101 => (some t101)) else (none)) else (if 0 ≤ a1 then (some (IntKind.u64.wrap (shr .i64 (wrap64 (a0)) a1))) else (none))
set_option maxHeartbeats 8000000 in
set_option maxRecDepth 100000 in
theorem word_down.calls (a0 : Int) (a1 : Int) (a2 : Int) (r : Int) (w : World) (h : word_down.f a0 a1 a2 = some r) :
  Calls Try.prog 29 #[.int .u64 a0, .int .u64 a1, .int .u64 a2] w fun e w' => e = .returned (.int .u64 r) ∧ Drawn0 w w' := by
 have H : (if a2 = 32 then (if 0 ≤ a1 then ((word_half.f (IntKind.u64.wrap (shr .i32 (wrap32 (a0)) a1))).bind fun t101 => (some t101)) else (none)) else (if 0 ≤ a1 then (some (IntKind.u64.wrap (shr .i64 (wrap64 (a0)) a1))) else (none))) = some r := h
 clear h
 by_cases c4 : a2 = 32
 ·rw [if_pos c4] at H
  have c4b0 : (a2 == 32) = true := beq_iff_eq.mpr c4
  have c4b1 : (a2 != 32) = false := bne_eq_false_iff_eq.mpr c4
  clear c4
  by_cases c5 : 0 ≤ a1
  ·rw [if_pos c5] at H
   have c5b0 := eq_true c5
   have c5b1 : decide (0 ≤ a1) = true := decide_eq_true c5
   clear c5
   obtain ⟨ji6, hji6⟩ : ∃ j_ : Int, (shr .i32 (wrap32 (a0)) a1) = j_ := ⟨_, rfl⟩
   replace H : ((word_half.f (IntKind.u64.wrap (ji6))).bind fun t101 => (some t101)) = some r := by first | (rw [hji6] at H; exact H) | (simp only [hji6] at H ⊢; exact H)
   have hji6_ : ((wrap32 (a0)) / 2 ^ min a1.toNat 32) = ji6 := hji6
   have hji6z : a1 ≤ 32 → ((wrap32 (a0)) / 2 ^ a1.toNat) = ji6 := shr_small hji6
   replace H := Option.bind_eq_some_iff.mp H; obtain ⟨t101, A70, H⟩ := H; try dsimp only at H
   have A7 := Aside0.mk A70
   clear A70
   obtain rfl := Option.some.inj H
   go_enter Try.func29, Try.ntmps29
   go_wp2_with (first | ((with_reducible refine gate_callee (f := 28) rfl ?_); refine goesL_ (some 14) rfl rfl Try.func28 (by kernel_rfl) rfl #[.int .u64 (IntKind.u64.wrap (ji6))] rfl (by (try simp only [List.map_toArray, List.map_cons, List.map_nil]); first | done | (simp only [hji6]; rfl) | rfl | (simp only [List.length_drop, List.length_take]; rfl)) ?_; (with_reducible refine (word_half.calls (IntKind.u64.wrap (ji6)) t101 _ A7.out).mono ?_); rintro e w' ⟨rfl, ⟨nd, rfl⟩⟩; refine ⟨_, rfl, ?_⟩))
   go_ret
   exact ⟨by first | rfl | (simp; done) | (simp only [← hji6] <;> (first | rfl | simp)) | (simp [*]; done), by repeat (first | exact Drawn0.refl _ | apply Drawn0.step)⟩
  ·rw [if_neg c5] at H
   exact absurd H (by simp)
 ·rw [if_neg c4] at H
  have c4b0 : (a2 == 32) = false := beq_eq_false_iff_ne.mpr c4
  have c4b1 : (a2 != 32) = true := bne_iff_ne.mpr c4
  by_cases c8 : 0 ≤ a1
  ·rw [if_pos c8] at H
   have c8b0 := eq_true c8
   have c8b1 : decide (0 ≤ a1) = true := decide_eq_true c8
   clear c8
   obtain ⟨ji9, hji9⟩ : ∃ j_ : Int, (shr .i64 (wrap64 (a0)) a1) = j_ := ⟨_, rfl⟩
   replace H : (some (IntKind.u64.wrap (ji9))) = some r := by first | (rw [hji9] at H; exact H) | (simp only [hji9] at H ⊢; exact H)
   have hji9_ : ((wrap64 (a0)) / 2 ^ min a1.toNat 64) = ji9 := hji9
   have hji9z : a1 ≤ 64 → ((wrap64 (a0)) / 2 ^ a1.toNat) = ji9 := shr_small hji9
   obtain rfl := Option.some.inj H
   go_enter Try.func29, Try.ntmps29
   go_wp2
   go_ret
   exact ⟨by first | rfl | (simp; done) | (simp only [← hji9] <;> (first | rfl | simp)) | (simp [*]; done), by repeat (first | exact Drawn0.refl _ | apply Drawn0.step)⟩
  ·rw [if_neg c8] at H
   exact absurd H (by simp)

/-! ### word_Alu: function 13 -/
def word_Alu.f (a0 : Int) (a1 : Bool) (a2 : Int) (a3 : Int) : Option (Int × Int) := if a1 = true then ((word_Alu_lit1.f a2).bind fun t102 => ((word_Alu_lit1.f a3).bind fun t103 => (if a0 = 0 then ((word_Alu_lit1.f (IntKind.u64.wrap (t102 + t103))).bind fun t104 => (some (t104, 0))) else (if a0 = 1 then ((word_Alu_lit1.f (IntKind.u64.wrap (t102 - t103))).bind fun t105 => (some (t105, 0))) else (if a0 = 2 then ((word_Alu_lit1.f (IntKind.u64.wrap (t102 * t103))).bind fun t106 => (some (t106, 0))) else (if a0 = 3 then (if t103 = 0 then (some (0, 0)) else ((word_Alu_lit1.f (IntKind.u64.wrap (Int.tdiv t102 t103))).bind fun t107 => (some (t107, 0)))) else (if a0 = 4 then ((word_Alu_lit1.f (Go.bits .or .u64 t102 t103)).bind fun t108 => (some (t108, 0))) else (if a0 = 5 then ((word_Alu_lit1.f (Go.bits .and .u64 t102 t103)).bind fun t109 => (some (t109, 0))) else (if a0 = 6 then (if 0 ≤ (Int.tmod t103 64) then ((word_Alu_lit1.f (shl .u64 t102 (Int.tmod t103 64))).bind fun t110 => (some (t110, 0))) else (none)) else (if a0 = 7 then (if 0 ≤ (Int.tmod t103 64) then ((word_Alu_lit1.f (shr .u64 t102 (Int.tmod t103 64))).bind fun t111 => (some (t111, 0))) else (none)) else (if a0 = 8 then ((word_Alu_lit1.f (IntKind.u64.wrap (-t102))).bind fun t112 => (some (t112, 0))) else (if a0 = 9 then (if t103 = 0 then ((word_Alu_lit1.f t102).bind fun t113 => (some (t113, 0))) else ((word_Alu_lit1.f (Int.tmod t102 t103)).bind fun t114 => (some (t114, 0)))) else (if a0 = 10 then ((word_Alu_lit1.f (Go.bits .xor .u64 t102 t103)).bind fun t115 => (some (t115, 0))) else (if a0 = 11 then ((word_Alu_lit1.f t103).bind fun t116 => (some (t116, 0))) else (if a0 = 12 then ((word_down.f t102 (Int.tmod t103 64) 64).bind fun t117 => ((word_Alu_lit1.f t117).bind fun t118 => (some (t118, 0)))) else (some (0, 20))))))))))))))))) else ((word_half.f a2).bind fun t119 => ((word_half.f a3).bind fun t120 => (if a0 = 0 then ((word_half.f (IntKind.u64.wrap (t119 + t120))).bind fun t121 => (some (t121, 0))) else (if a0 = 1 then ((word_half.f (IntKind.u64.wrap (t119 - t120))).bind fun t122 => (some (t122, 0))) else (if a0 = 2 then ((word_half.f (IntKind.u64.wrap (t119 * t120))).bind fun t123 => (some (t123, 0))) else (if a0 = 3 then (if t120 = 0 then (some (0, 0)) else ((word_half.f (IntKind.u64.wrap (Int.tdiv t119 t120))).bind fun t124 => (some (t124, 0)))) else (if a0 = 4 then ((word_half.f (Go.bits .or .u64 t119 t120)).bind fun t125 => (some (t125, 0))) else (if a0 = 5 then ((word_half.f (Go.bits .and .u64 t119 t120)).bind fun t126 => (some (t126, 0))) else (if a0 = 6 then (if 0 ≤ (Int.tmod t120 32) then ((word_half.f (shl .u64 t119 (Int.tmod t120 32))).bind fun t127 => (some (t127, 0))) else (none)) else (if a0 = 7 then (if 0 ≤ (Int.tmod t120 32) then ((word_half.f (shr .u64 t119 (Int.tmod t120 32))).bind fun t128 => (some (t128, 0))) else (none)) else (if a0 = 8 then ((word_half.f (IntKind.u64.wrap (-t119))).bind fun t129 => (some (t129, 0))) else (if a0 = 9 then (if t120 = 0 then ((word_half.f t119).bind fun t130 => (some (t130, 0))) else ((word_half.f (Int.tmod t119 t120)).bind fun t131 => (some (t131, 0)))) else (if a0 = 10 then ((word_half.f (Go.bits .xor .u64 t119 t120)).bind fun t132 => (some (t132, 0))) else (if a0 = 11 then ((word_half.f t120).bind fun t133 => (some (t133, 0))) else (if a0 = 12 then ((word_down.f t119 (Int.tmod t120 32) 32).bind fun t134 => ((word_half.f t134).bind fun t135 => (some (t135, 0)))) else (some (0, 20)))))))))))))))))
set_option maxHeartbeats 8000000 in
set_option maxRecDepth 100000 in
theorem word_Alu.calls (a0 : Int) (a1 : Bool) (a2 : Int) (a3 : Int) (r1 : Int) (r2 : Int) (w : World) (h : word_Alu.f a0 a1 a2 a3 = some (r1, r2)) :
  Calls Try.prog 13 #[.int .i64 a0, .bool a1, .int .u64 a2, .int .u64 a3] w fun e w' => e = .returned (.tuple #[.int .u64 r1, .int .i64 r2]) ∧ Drawn0 w w' := by
 have H : (if a1 = true then ((word_Alu_lit1.f a2).bind fun t102 => ((word_Alu_lit1.f a3).bind fun t103 => (if a0 = 0 then ((word_Alu_lit1.f (IntKind.u64.wrap (t102 + t103))).bind fun t104 => (some (t104, 0))) else (if a0 = 1 then ((word_Alu_lit1.f (IntKind.u64.wrap (t102 - t103))).bind fun t105 => (some (t105, 0))) else (if a0 = 2 then ((word_Alu_lit1.f (IntKind.u64.wrap (t102 * t103))).bind fun t106 => (some (t106, 0))) else (if a0 = 3 then (if t103 = 0 then (some (0, 0)) else ((word_Alu_lit1.f (IntKind.u64.wrap (Int.tdiv t102 t103))).bind fun t107 => (some (t107, 0)))) else (if a0 = 4 then ((word_Alu_lit1.f (Go.bits .or .u64 t102 t103)).bind fun t108 => (some (t108, 0))) else (if a0 = 5 then ((word_Alu_lit1.f (Go.bits .and .u64 t102 t103)).bind fun t109 => (some (t109, 0))) else (if a0 = 6 then (if 0 ≤ (Int.tmod t103 64) then ((word_Alu_lit1.f (shl .u64 t102 (Int.tmod t103 64))).bind fun t110 => (some (t110, 0))) else (none)) else (if a0 = 7 then (if 0 ≤ (Int.tmod t103 64) then ((word_Alu_lit1.f (shr .u64 t102 (Int.tmod t103 64))).bind fun t111 => (some (t111, 0))) else (none)) else (if a0 = 8 then ((word_Alu_lit1.f (IntKind.u64.wrap (-t102))).bind fun t112 => (some (t112, 0))) else (if a0 = 9 then (if t103 = 0 then ((word_Alu_lit1.f t102).bind fun t113 => (some (t113, 0))) else ((word_Alu_lit1.f (Int.tmod t102 t103)).bind fun t114 => (some (t114, 0)))) else (if a0 = 10 then ((word_Alu_lit1.f (Go.bits .xor .u64 t102 t103)).bind fun t115 => (some (t115, 0))) else (if a0 = 11 then ((word_Alu_lit1.f t103).bind fun t116 => (some (t116, 0))) else (if a0 = 12 then ((word_down.f t102 (Int.tmod t103 64) 64).bind fun t117 => ((word_Alu_lit1.f t117).bind fun t118 => (some (t118, 0)))) else (some (0, 20))))))))))))))))) else ((word_half.f a2).bind fun t119 => ((word_half.f a3).bind fun t120 => (if a0 = 0 then ((word_half.f (IntKind.u64.wrap (t119 + t120))).bind fun t121 => (some (t121, 0))) else (if a0 = 1 then ((word_half.f (IntKind.u64.wrap (t119 - t120))).bind fun t122 => (some (t122, 0))) else (if a0 = 2 then ((word_half.f (IntKind.u64.wrap (t119 * t120))).bind fun t123 => (some (t123, 0))) else (if a0 = 3 then (if t120 = 0 then (some (0, 0)) else ((word_half.f (IntKind.u64.wrap (Int.tdiv t119 t120))).bind fun t124 => (some (t124, 0)))) else (if a0 = 4 then ((word_half.f (Go.bits .or .u64 t119 t120)).bind fun t125 => (some (t125, 0))) else (if a0 = 5 then ((word_half.f (Go.bits .and .u64 t119 t120)).bind fun t126 => (some (t126, 0))) else (if a0 = 6 then (if 0 ≤ (Int.tmod t120 32) then ((word_half.f (shl .u64 t119 (Int.tmod t120 32))).bind fun t127 => (some (t127, 0))) else (none)) else (if a0 = 7 then (if 0 ≤ (Int.tmod t120 32) then ((word_half.f (shr .u64 t119 (Int.tmod t120 32))).bind fun t128 => (some (t128, 0))) else (none)) else (if a0 = 8 then ((word_half.f (IntKind.u64.wrap (-t119))).bind fun t129 => (some (t129, 0))) else (if a0 = 9 then (if t120 = 0 then ((word_half.f t119).bind fun t130 => (some (t130, 0))) else ((word_half.f (Int.tmod t119 t120)).bind fun t131 => (some (t131, 0)))) else (if a0 = 10 then ((word_half.f (Go.bits .xor .u64 t119 t120)).bind fun t132 => (some (t132, 0))) else (if a0 = 11 then ((word_half.f t120).bind fun t133 => (some (t133, 0))) else (if a0 = 12 then ((word_down.f t119 (Int.tmod t120 32) 32).bind fun t134 => ((word_half.f t134).bind fun t135 => (some (t135, 0)))) else (some (0, 20)))))))))))))))))) = some (r1, r2) := h
 clear h
 by_cases c5 : a1 = true
 ·subst c5
  replace H := sh_t H
  replace H := Option.bind_eq_some_iff.mp H; obtain ⟨t102, A60, H⟩ := H; try dsimp only at H
  have A6 := Aside0.mk A60
  clear A60
  replace H := Option.bind_eq_some_iff.mp H; obtain ⟨t103, A70, H⟩ := H; try dsimp only at H
  have A7 := Aside0.mk A70
  clear A70
  by_cases c8 : a0 = 0
  ·rw [if_pos c8] at H
   have c8b0 : (a0 == 0) = true := beq_iff_eq.mpr c8
   have c8b1 : (a0 != 0) = false := bne_eq_false_iff_eq.mpr c8
   clear c8
   replace H := Option.bind_eq_some_iff.mp H; obtain ⟨t104, A90, H⟩ := H; try dsimp only at H
   have A9 := Aside0.mk A90
   clear A90
   simp only [Option.some.injEq, Prod.mk.injEq] at H
   obtain ⟨rfl, rfl⟩ := H
   go_enter Try.func13, Try.ntmps13
   go_wp2_with (first | ((with_reducible refine gate_tmp (t := 14) rfl ?_); refine goesV_ (some 16) rfl rfl rfl (by first | rfl | (simp; done)) Try.func27 (by kernel_rfl) rfl #[.int .u64 a2] (by (try simp only [List.map_toArray, List.map_cons, List.map_nil]); first | done | rfl | (simp only [List.length_drop, List.length_take]; rfl)) ?_; (with_reducible refine (word_Alu_lit1.calls a2 t102 _ A6.out).mono ?_); rintro e w' ⟨rfl, ⟨nd, rfl⟩⟩; refine ⟨_, rfl, ?_⟩) | ((with_reducible refine gate_tmp (t := 17) rfl ?_); refine goesV_ (some 19) rfl rfl rfl (by first | rfl | (simp; done)) Try.func27 (by kernel_rfl) rfl #[.int .u64 a3] (by (try simp only [List.map_toArray, List.map_cons, List.map_nil]); first | done | rfl | (simp only [List.length_drop, List.length_take]; rfl)) ?_; (with_reducible refine (word_Alu_lit1.calls a3 t103 _ A7.out).mono ?_); rintro e w' ⟨rfl, ⟨nd, rfl⟩⟩; refine ⟨_, rfl, ?_⟩) | ((with_reducible refine gate_tmp (t := 94) rfl ?_); refine goesV_ (some 96) rfl rfl rfl (by first | rfl | (simp; done)) Try.func27 (by kernel_rfl) rfl #[.int .u64 (IntKind.u64.wrap (t102 + t103))] (by (try simp only [List.map_toArray, List.map_cons, List.map_nil]); first | done | rfl | (simp only [List.length_drop, List.length_take]; rfl)) ?_; (with_reducible refine (word_Alu_lit1.calls (IntKind.u64.wrap (t102 + t103)) t104 _ A9.out).mono ?_); rintro e w' ⟨rfl, ⟨nd, rfl⟩⟩; refine ⟨_, rfl, ?_⟩))
   go_ret2
   exact ⟨by first | rfl | (simp; done) | (simp [*]; done), by repeat (first | exact Drawn0.refl _ | apply Drawn0.step)⟩
  ·rw [if_neg c8] at H
   have c8b0 : (a0 == 0) = false := beq_eq_false_iff_ne.mpr c8
   have c8b1 : (a0 != 0) = true := bne_iff_ne.mpr c8
   by_cases c10 : a0 = 1
   ·rw [if_pos c10] at H
    have c10b0 : (a0 == 1) = true := beq_iff_eq.mpr c10
    have c10b1 : (a0 != 1) = false := bne_eq_false_iff_eq.mpr c10
    clear c10
    replace H := Option.bind_eq_some_iff.mp H; obtain ⟨t105, A110, H⟩ := H; try dsimp only at H
    have A11 := Aside0.mk A110
    clear A110
    simp only [Option.some.injEq, Prod.mk.injEq] at H
    obtain ⟨rfl, rfl⟩ := H
    go_enter Try.func13, Try.ntmps13
    go_wp2_with (first | ((with_reducible refine gate_tmp (t := 14) rfl ?_); refine goesV_ (some 16) rfl rfl rfl (by first | rfl | (simp; done)) Try.func27 (by kernel_rfl) rfl #[.int .u64 a2] (by (try simp only [List.map_toArray, List.map_cons, List.map_nil]); first | done | rfl | (simp only [List.length_drop, List.length_take]; rfl)) ?_; (with_reducible refine (word_Alu_lit1.calls a2 t102 _ A6.out).mono ?_); rintro e w' ⟨rfl, ⟨nd, rfl⟩⟩; refine ⟨_, rfl, ?_⟩) | ((with_reducible refine gate_tmp (t := 17) rfl ?_); refine goesV_ (some 19) rfl rfl rfl (by first | rfl | (simp; done)) Try.func27 (by kernel_rfl) rfl #[.int .u64 a3] (by (try simp only [List.map_toArray, List.map_cons, List.map_nil]); first | done | rfl | (simp only [List.length_drop, List.length_take]; rfl)) ?_; (with_reducible refine (word_Alu_lit1.calls a3 t103 _ A7.out).mono ?_); rintro e w' ⟨rfl, ⟨nd, rfl⟩⟩; refine ⟨_, rfl, ?_⟩) | ((with_reducible refine gate_tmp (t := 94) rfl ?_); refine goesV_ (some 96) rfl rfl rfl (by first | rfl | (simp; done)) Try.func27 (by kernel_rfl) rfl #[.int .u64 (IntKind.u64.wrap (t102 - t103))] (by (try simp only [List.map_toArray, List.map_cons, List.map_nil]); first | done | rfl | (simp only [List.length_drop, List.length_take]; rfl)) ?_; (with_reducible refine (word_Alu_lit1.calls (IntKind.u64.wrap (t102 - t103)) t105 _ A11.out).mono ?_); rintro e w' ⟨rfl, ⟨nd, rfl⟩⟩; refine ⟨_, rfl, ?_⟩))
    go_ret2
    exact ⟨by first | rfl | (simp; done) | (simp [*]; done), by repeat (first | exact Drawn0.refl _ | apply Drawn0.step)⟩
   ·rw [if_neg c10] at H
    have c10b0 : (a0 == 1) = false := beq_eq_false_iff_ne.mpr c10
    have c10b1 : (a0 != 1) = true := bne_iff_ne.mpr c10
    by_cases c12 : a0 = 2
    ·rw [if_pos c12] at H
     have c12b0 : (a0 == 2) = true := beq_iff_eq.mpr c12
     have c12b1 : (a0 != 2) = false := bne_eq_false_iff_eq.mpr c12
     clear c12
     replace H := Option.bind_eq_some_iff.mp H; obtain ⟨t106, A130, H⟩ := H; try dsimp only at H
     have A13 := Aside0.mk A130
     clear A130
     simp only [Option.some.injEq, Prod.mk.injEq] at H
     obtain ⟨rfl, rfl⟩ := H
     go_enter Try.func13, Try.ntmps13
     go_wp2_with (first | ((with_reducible refine gate_tmp (t := 14) rfl ?_); refine goesV_ (some 16) rfl rfl rfl (by first | rfl | (simp; done)) Try.func27 (by kernel_rfl) rfl #[.int .u64 a2] (by (try simp only [List.map_toArray, List.map_cons, List.map_nil]); first | done | rfl | (simp only [List.length_drop, List.length_take]; rfl)) ?_; (with_reducible refine (word_Alu_lit1.calls a2 t102 _ A6.out).mono ?_); rintro e w' ⟨rfl, ⟨nd, rfl⟩⟩; refine ⟨_, rfl, ?_⟩) | ((with_reducible refine gate_tmp (t := 17) rfl ?_); refine goesV_ (some 19) rfl rfl rfl (by first | rfl | (simp; done)) Try.func27 (by kernel_rfl) rfl #[.int .u64 a3] (by (try simp only [List.map_toArray, List.map_cons, List.map_nil]); first | done | rfl | (simp only [List.length_drop, List.length_take]; rfl)) ?_; (with_reducible refine (word_Alu_lit1.calls a3 t103 _ A7.out).mono ?_); rintro e w' ⟨rfl, ⟨nd, rfl⟩⟩; refine ⟨_, rfl, ?_⟩) | ((with_reducible refine gate_tmp (t := 94) rfl ?_); refine goesV_ (some 96) rfl rfl rfl (by first | rfl | (simp; done)) Try.func27 (by kernel_rfl) rfl #[.int .u64 (IntKind.u64.wrap (t102 * t103))] (by (try simp only [List.map_toArray, List.map_cons, List.map_nil]); first | done | rfl | (simp only [List.length_drop, List.length_take]; rfl)) ?_; (with_reducible refine (word_Alu_lit1.calls (IntKind.u64.wrap (t102 * t103)) t106 _ A13.out).mono ?_); rintro e w' ⟨rfl, ⟨nd, rfl⟩⟩; refine ⟨_, rfl, ?_⟩))
     go_ret2
     exact ⟨by first | rfl | (simp; done) | (simp [*]; done), by repeat (first | exact Drawn0.refl _ | apply Drawn0.step)⟩
    ·rw [if_neg c12] at H
     have c12b0 : (a0 == 2) = false := beq_eq_false_iff_ne.mpr c12
     have c12b1 : (a0 != 2) = true := bne_iff_ne.mpr c12
     by_cases c14 : a0 = 3
     ·rw [if_pos c14] at H
      have c14b0 : (a0 == 3) = true := beq_iff_eq.mpr c14
      have c14b1 : (a0 != 3) = false := bne_eq_false_iff_eq.mpr c14
      clear c14
      by_cases c15 : t103 = 0
      ·rw [if_pos c15] at H
       have c15b0 : (t103 == 0) = true := beq_iff_eq.mpr c15
       have c15b1 : (t103 != 0) = false := bne_eq_false_iff_eq.mpr c15
       clear c15
       simp only [Option.some.injEq, Prod.mk.injEq] at H
       obtain ⟨rfl, rfl⟩ := H
       go_enter Try.func13, Try.ntmps13
       go_wp2_with (first | ((with_reducible refine gate_tmp (t := 14) rfl ?_); refine goesV_ (some 16) rfl rfl rfl (by first | rfl | (simp; done)) Try.func27 (by kernel_rfl) rfl #[.int .u64 a2] (by (try simp only [List.map_toArray, List.map_cons, List.map_nil]); first | done | rfl | (simp only [List.length_drop, List.length_take]; rfl)) ?_; (with_reducible refine (word_Alu_lit1.calls a2 t102 _ A6.out).mono ?_); rintro e w' ⟨rfl, ⟨nd, rfl⟩⟩; refine ⟨_, rfl, ?_⟩) | ((with_reducible refine gate_tmp (t := 17) rfl ?_); refine goesV_ (some 19) rfl rfl rfl (by first | rfl | (simp; done)) Try.func27 (by kernel_rfl) rfl #[.int .u64 a3] (by (try simp only [List.map_toArray, List.map_cons, List.map_nil]); first | done | rfl | (simp only [List.length_drop, List.length_take]; rfl)) ?_; (with_reducible refine (word_Alu_lit1.calls a3 t103 _ A7.out).mono ?_); rintro e w' ⟨rfl, ⟨nd, rfl⟩⟩; refine ⟨_, rfl, ?_⟩))
       go_ret2
       exact ⟨by first | rfl | (simp; done) | (simp [*]; done), by repeat (first | exact Drawn0.refl _ | apply Drawn0.step)⟩
      ·rw [if_neg c15] at H
       have c15b0 : (t103 == 0) = false := beq_eq_false_iff_ne.mpr c15
       have c15b1 : (t103 != 0) = true := bne_iff_ne.mpr c15
       replace H := Option.bind_eq_some_iff.mp H; obtain ⟨t107, A160, H⟩ := H; try dsimp only at H
       have A16 := Aside0.mk A160
       clear A160
       simp only [Option.some.injEq, Prod.mk.injEq] at H
       obtain ⟨rfl, rfl⟩ := H
       go_enter Try.func13, Try.ntmps13
       go_wp2_with (first | ((with_reducible refine gate_tmp (t := 14) rfl ?_); refine goesV_ (some 16) rfl rfl rfl (by first | rfl | (simp; done)) Try.func27 (by kernel_rfl) rfl #[.int .u64 a2] (by (try simp only [List.map_toArray, List.map_cons, List.map_nil]); first | done | rfl | (simp only [List.length_drop, List.length_take]; rfl)) ?_; (with_reducible refine (word_Alu_lit1.calls a2 t102 _ A6.out).mono ?_); rintro e w' ⟨rfl, ⟨nd, rfl⟩⟩; refine ⟨_, rfl, ?_⟩) | ((with_reducible refine gate_tmp (t := 17) rfl ?_); refine goesV_ (some 19) rfl rfl rfl (by first | rfl | (simp; done)) Try.func27 (by kernel_rfl) rfl #[.int .u64 a3] (by (try simp only [List.map_toArray, List.map_cons, List.map_nil]); first | done | rfl | (simp only [List.length_drop, List.length_take]; rfl)) ?_; (with_reducible refine (word_Alu_lit1.calls a3 t103 _ A7.out).mono ?_); rintro e w' ⟨rfl, ⟨nd, rfl⟩⟩; refine ⟨_, rfl, ?_⟩) | ((with_reducible refine gate_tmp (t := 94) rfl ?_); refine goesV_ (some 96) rfl rfl rfl (by first | rfl | (simp; done)) Try.func27 (by kernel_rfl) rfl #[.int .u64 (IntKind.u64.wrap (Int.tdiv t102 t103))] (by (try simp only [List.map_toArray, List.map_cons, List.map_nil]); first | done | rfl | (simp only [List.length_drop, List.length_take]; rfl)) ?_; (with_reducible refine (word_Alu_lit1.calls (IntKind.u64.wrap (Int.tdiv t102 t103)) t107 _ A16.out).mono ?_); rintro e w' ⟨rfl, ⟨nd, rfl⟩⟩; refine ⟨_, rfl, ?_⟩))
       go_ret2
       exact ⟨by first | rfl | (simp; done) | (simp [*]; done), by repeat (first | exact Drawn0.refl _ | apply Drawn0.step)⟩
     ·rw [if_neg c14] at H
      have c14b0 : (a0 == 3) = false := beq_eq_false_iff_ne.mpr c14
      have c14b1 : (a0 != 3) = true := bne_iff_ne.mpr c14
      by_cases c17 : a0 = 4
      ·rw [if_pos c17] at H
       have c17b0 : (a0 == 4) = true := beq_iff_eq.mpr c17
       have c17b1 : (a0 != 4) = false := bne_eq_false_iff_eq.mpr c17
       clear c17
       replace H := Option.bind_eq_some_iff.mp H; obtain ⟨t108, A180, H⟩ := H; try dsimp only at H
       have A18 := Aside0.mk A180
       clear A180
       simp only [Option.some.injEq, Prod.mk.injEq] at H
       obtain ⟨rfl, rfl⟩ := H
       go_enter Try.func13, Try.ntmps13
       go_wp2_with (first | ((with_reducible refine gate_tmp (t := 14) rfl ?_); refine goesV_ (some 16) rfl rfl rfl (by first | rfl | (simp; done)) Try.func27 (by kernel_rfl) rfl #[.int .u64 a2] (by (try simp only [List.map_toArray, List.map_cons, List.map_nil]); first | done | rfl | (simp only [List.length_drop, List.length_take]; rfl)) ?_; (with_reducible refine (word_Alu_lit1.calls a2 t102 _ A6.out).mono ?_); rintro e w' ⟨rfl, ⟨nd, rfl⟩⟩; refine ⟨_, rfl, ?_⟩) | ((with_reducible refine gate_tmp (t := 17) rfl ?_); refine goesV_ (some 19) rfl rfl rfl (by first | rfl | (simp; done)) Try.func27 (by kernel_rfl) rfl #[.int .u64 a3] (by (try simp only [List.map_toArray, List.map_cons, List.map_nil]); first | done | rfl | (simp only [List.length_drop, List.length_take]; rfl)) ?_; (with_reducible refine (word_Alu_lit1.calls a3 t103 _ A7.out).mono ?_); rintro e w' ⟨rfl, ⟨nd, rfl⟩⟩; refine ⟨_, rfl, ?_⟩) | ((with_reducible refine gate_tmp (t := 94) rfl ?_); refine goesV_ (some 96) rfl rfl rfl (by first | rfl | (simp; done)) Try.func27 (by kernel_rfl) rfl #[.int .u64 (Go.bits .or .u64 t102 t103)] (by (try simp only [List.map_toArray, List.map_cons, List.map_nil]); first | done | rfl | (simp only [List.length_drop, List.length_take]; rfl)) ?_; (with_reducible refine (word_Alu_lit1.calls (Go.bits .or .u64 t102 t103) t108 _ A18.out).mono ?_); rintro e w' ⟨rfl, ⟨nd, rfl⟩⟩; refine ⟨_, rfl, ?_⟩))
       go_ret2
       exact ⟨by first | rfl | (simp; done) | (simp [*]; done), by repeat (first | exact Drawn0.refl _ | apply Drawn0.step)⟩
      ·rw [if_neg c17] at H
       have c17b0 : (a0 == 4) = false := beq_eq_false_iff_ne.mpr c17
       have c17b1 : (a0 != 4) = true := bne_iff_ne.mpr c17
       by_cases c19 : a0 = 5
       ·rw [if_pos c19] at H
        have c19b0 : (a0 == 5) = true := beq_iff_eq.mpr c19
        have c19b1 : (a0 != 5) = false := bne_eq_false_iff_eq.mpr c19
        clear c19
        replace H := Option.bind_eq_some_iff.mp H; obtain ⟨t109, A200, H⟩ := H; try dsimp only at H
        have A20 := Aside0.mk A200
        clear A200
        simp only [Option.some.injEq, Prod.mk.injEq] at H
        obtain ⟨rfl, rfl⟩ := H
        go_enter Try.func13, Try.ntmps13
        go_wp2_with (first | ((with_reducible refine gate_tmp (t := 14) rfl ?_); refine goesV_ (some 16) rfl rfl rfl (by first | rfl | (simp; done)) Try.func27 (by kernel_rfl) rfl #[.int .u64 a2] (by (try simp only [List.map_toArray, List.map_cons, List.map_nil]); first | done | rfl | (simp only [List.length_drop, List.length_take]; rfl)) ?_; (with_reducible refine (word_Alu_lit1.calls a2 t102 _ A6.out).mono ?_); rintro e w' ⟨rfl, ⟨nd, rfl⟩⟩; refine ⟨_, rfl, ?_⟩) | ((with_reducible refine gate_tmp (t := 17) rfl ?_); refine goesV_ (some 19) rfl rfl rfl (by first | rfl | (simp; done)) Try.func27 (by kernel_rfl) rfl #[.int .u64 a3] (by (try simp only [List.map_toArray, List.map_cons, List.map_nil]); first | done | rfl | (simp only [List.length_drop, List.length_take]; rfl)) ?_; (with_reducible refine (word_Alu_lit1.calls a3 t103 _ A7.out).mono ?_); rintro e w' ⟨rfl, ⟨nd, rfl⟩⟩; refine ⟨_, rfl, ?_⟩) | ((with_reducible refine gate_tmp (t := 94) rfl ?_); refine goesV_ (some 96) rfl rfl rfl (by first | rfl | (simp; done)) Try.func27 (by kernel_rfl) rfl #[.int .u64 (Go.bits .and .u64 t102 t103)] (by (try simp only [List.map_toArray, List.map_cons, List.map_nil]); first | done | rfl | (simp only [List.length_drop, List.length_take]; rfl)) ?_; (with_reducible refine (word_Alu_lit1.calls (Go.bits .and .u64 t102 t103) t109 _ A20.out).mono ?_); rintro e w' ⟨rfl, ⟨nd, rfl⟩⟩; refine ⟨_, rfl, ?_⟩))
        go_ret2
        exact ⟨by first | rfl | (simp; done) | (simp [*]; done), by repeat (first | exact Drawn0.refl _ | apply Drawn0.step)⟩
       ·rw [if_neg c19] at H
        have c19b0 : (a0 == 5) = false := beq_eq_false_iff_ne.mpr c19
        have c19b1 : (a0 != 5) = true := bne_iff_ne.mpr c19
        by_cases c21 : a0 = 6
        ·rw [if_pos c21] at H
         have c21b0 : (a0 == 6) = true := beq_iff_eq.mpr c21
         have c21b1 : (a0 != 6) = false := bne_eq_false_iff_eq.mpr c21
         clear c21
         obtain ⟨ji22, hji22⟩ : ∃ j_ : Int, (Int.tmod t103 64) = j_ := ⟨_, rfl⟩
         replace H : (if 0 ≤ (ji22) then ((word_Alu_lit1.f (shl .u64 t102 (ji22))).bind fun t110 => (some (t110, 0))) else (none)) = some (r1, r2) := by first | (rw [hji22] at H; exact H) | (simp only [hji22] at H ⊢; exact H)
         (try rw [hji22] at A6)
         (try rw [hji22] at A7)
         by_cases c23 : 0 ≤ (ji22)
         ·rw [if_pos c23] at H
          have c23b0 := eq_true c23
          have c23b1 : decide (0 ≤ (ji22)) = true := decide_eq_true c23
          clear c23
          obtain ⟨ji24, hji24⟩ : ∃ j_ : Int, (shl .u64 t102 (ji22)) = j_ := ⟨_, rfl⟩
          replace H : ((word_Alu_lit1.f (ji24)).bind fun t110 => (some (t110, 0))) = some (r1, r2) := by first | (rw [hji24] at H; exact H) | (simp only [hji24] at H ⊢; exact H)
          (try rw [hji24] at A6)
          (try rw [hji24] at A7)
          have hji24_ : (IntKind.u64.wrap (t102 * 2 ^ min (ji22).toNat 64)) = ji24 := hji24
          have hji24z : (ji22) ≤ 64 → (IntKind.u64.wrap (t102 * 2 ^ (ji22).toNat)) = ji24 := shl_small hji24
          replace H := Option.bind_eq_some_iff.mp H; obtain ⟨t110, A250, H⟩ := H; try dsimp only at H
          have A25 := Aside0.mk A250
          clear A250
          simp only [Option.some.injEq, Prod.mk.injEq] at H
          obtain ⟨rfl, rfl⟩ := H
          go_enter Try.func13, Try.ntmps13
          go_wp2_with (first | ((with_reducible refine gate_tmp (t := 14) rfl ?_); refine goesV_ (some 16) rfl rfl rfl (by first | rfl | (simp; done)) Try.func27 (by kernel_rfl) rfl #[.int .u64 a2] (by (try simp only [List.map_toArray, List.map_cons, List.map_nil]); first | done | rfl | (simp only [List.length_drop, List.length_take]; rfl)) ?_; (with_reducible refine (word_Alu_lit1.calls a2 t102 _ A6.out).mono ?_); rintro e w' ⟨rfl, ⟨nd, rfl⟩⟩; refine ⟨_, rfl, ?_⟩) | ((with_reducible refine gate_tmp (t := 17) rfl ?_); refine goesV_ (some 19) rfl rfl rfl (by first | rfl | (simp; done)) Try.func27 (by kernel_rfl) rfl #[.int .u64 a3] (by (try simp only [List.map_toArray, List.map_cons, List.map_nil]); first | done | rfl | (simp only [List.length_drop, List.length_take]; rfl)) ?_; (with_reducible refine (word_Alu_lit1.calls a3 t103 _ A7.out).mono ?_); rintro e w' ⟨rfl, ⟨nd, rfl⟩⟩; refine ⟨_, rfl, ?_⟩) | ((with_reducible refine gate_tmp (t := 94) rfl ?_); refine goesV_ (some 96) rfl rfl rfl (by first | rfl | (simp; done)) Try.func27 (by kernel_rfl) rfl #[.int .u64 ji24] (by (try simp only [List.map_toArray, List.map_cons, List.map_nil]); first | done | (simp only [hji24]; rfl) | rfl | (simp only [List.length_drop, List.length_take]; rfl)) ?_; (with_reducible refine (word_Alu_lit1.calls ji24 t110 _ A25.out).mono ?_); rintro e w' ⟨rfl, ⟨nd, rfl⟩⟩; refine ⟨_, rfl, ?_⟩))
          go_ret2
          exact ⟨by first | rfl | (simp; done) | (simp only [← hji22, ← hji24] <;> (first | rfl | simp)) | (simp [*]; done), by repeat (first | exact Drawn0.refl _ | apply Drawn0.step)⟩
         ·rw [if_neg c23] at H
          exact absurd H (by simp)
        ·rw [if_neg c21] at H
         have c21b0 : (a0 == 6) = false := beq_eq_false_iff_ne.mpr c21
         have c21b1 : (a0 != 6) = true := bne_iff_ne.mpr c21
         by_cases c26 : a0 = 7
         ·rw [if_pos c26] at H
          have c26b0 : (a0 == 7) = true := beq_iff_eq.mpr c26
          have c26b1 : (a0 != 7) = false := bne_eq_false_iff_eq.mpr c26
          clear c26
          obtain ⟨ji27, hji27⟩ : ∃ j_ : Int, (Int.tmod t103 64) = j_ := ⟨_, rfl⟩
          replace H : (if 0 ≤ (ji27) then ((word_Alu_lit1.f (shr .u64 t102 (ji27))).bind fun t111 => (some (t111, 0))) else (none)) = some (r1, r2) := by first | (rw [hji27] at H; exact H) | (simp only [hji27] at H ⊢; exact H)
          (try rw [hji27] at A6)
          (try rw [hji27] at A7)
          by_cases c28 : 0 ≤ (ji27)
          ·rw [if_pos c28] at H
           have c28b0 := eq_true c28
           have c28b1 : decide (0 ≤ (ji27)) = true := decide_eq_true c28
           clear c28
           obtain ⟨ji29, hji29⟩ : ∃ j_ : Int, (shr .u64 t102 (ji27)) = j_ := ⟨_, rfl⟩
           replace H : ((word_Alu_lit1.f (ji29)).bind fun t111 => (some (t111, 0))) = some (r1, r2) := by first | (rw [hji29] at H; exact H) | (simp only [hji29] at H ⊢; exact H)
           (try rw [hji29] at A6)
           (try rw [hji29] at A7)
           have hji29_ : (t102 / 2 ^ min (ji27).toNat 64) = ji29 := hji29
           have hji29z : (ji27) ≤ 64 → (t102 / 2 ^ (ji27).toNat) = ji29 := shr_small hji29
           replace H := Option.bind_eq_some_iff.mp H; obtain ⟨t111, A300, H⟩ := H; try dsimp only at H
           have A30 := Aside0.mk A300
           clear A300
           simp only [Option.some.injEq, Prod.mk.injEq] at H
           obtain ⟨rfl, rfl⟩ := H
           go_enter Try.func13, Try.ntmps13
           go_wp2_with (first | ((with_reducible refine gate_tmp (t := 14) rfl ?_); refine goesV_ (some 16) rfl rfl rfl (by first | rfl | (simp; done)) Try.func27 (by kernel_rfl) rfl #[.int .u64 a2] (by (try simp only [List.map_toArray, List.map_cons, List.map_nil]); first | done | rfl | (simp only [List.length_drop, List.length_take]; rfl)) ?_; (with_reducible refine (word_Alu_lit1.calls a2 t102 _ A6.out).mono ?_); rintro e w' ⟨rfl, ⟨nd, rfl⟩⟩; refine ⟨_, rfl, ?_⟩) | ((with_reducible refine gate_tmp (t := 17) rfl ?_); refine goesV_ (some 19) rfl rfl rfl (by first | rfl | (simp; done)) Try.func27 (by kernel_rfl) rfl #[.int .u64 a3] (by (try simp only [List.map_toArray, List.map_cons, List.map_nil]); first | done | rfl | (simp only [List.length_drop, List.length_take]; rfl)) ?_; (with_reducible refine (word_Alu_lit1.calls a3 t103 _ A7.out).mono ?_); rintro e w' ⟨rfl, ⟨nd, rfl⟩⟩; refine ⟨_, rfl, ?_⟩) | ((with_reducible refine gate_tmp (t := 94) rfl ?_); refine goesV_ (some 96) rfl rfl rfl (by first | rfl | (simp; done)) Try.func27 (by kernel_rfl) rfl #[.int .u64 ji29] (by (try simp only [List.map_toArray, List.map_cons, List.map_nil]); first | done | (simp only [hji29]; rfl) | rfl | (simp only [List.length_drop, List.length_take]; rfl)) ?_; (with_reducible refine (word_Alu_lit1.calls ji29 t111 _ A30.out).mono ?_); rintro e w' ⟨rfl, ⟨nd, rfl⟩⟩; refine ⟨_, rfl, ?_⟩))
           go_ret2
           exact ⟨by first | rfl | (simp; done) | (simp only [← hji27, ← hji29] <;> (first | rfl | simp)) | (simp [*]; done), by repeat (first | exact Drawn0.refl _ | apply Drawn0.step)⟩
          ·rw [if_neg c28] at H
           exact absurd H (by simp)
         ·rw [if_neg c26] at H
          have c26b0 : (a0 == 7) = false := beq_eq_false_iff_ne.mpr c26
          have c26b1 : (a0 != 7) = true := bne_iff_ne.mpr c26
          by_cases c31 : a0 = 8
          ·rw [if_pos c31] at H
           have c31b0 : (a0 == 8) = true := beq_iff_eq.mpr c31
           have c31b1 : (a0 != 8) = false := bne_eq_false_iff_eq.mpr c31
           clear c31
           replace H := Option.bind_eq_some_iff.mp H; obtain ⟨t112, A320, H⟩ := H; try dsimp only at H
           have A32 := Aside0.mk A320
           clear A320
           simp only [Option.some.injEq, Prod.mk.injEq] at H
           obtain ⟨rfl, rfl⟩ := H
           go_enter Try.func13, Try.ntmps13
           go_wp2_with (first | ((with_reducible refine gate_tmp (t := 14) rfl ?_); refine goesV_ (some 16) rfl rfl rfl (by first | rfl | (simp; done)) Try.func27 (by kernel_rfl) rfl #[.int .u64 a2] (by (try simp only [List.map_toArray, List.map_cons, List.map_nil]); first | done | rfl | (simp only [List.length_drop, List.length_take]; rfl)) ?_; (with_reducible refine (word_Alu_lit1.calls a2 t102 _ A6.out).mono ?_); rintro e w' ⟨rfl, ⟨nd, rfl⟩⟩; refine ⟨_, rfl, ?_⟩) | ((with_reducible refine gate_tmp (t := 17) rfl ?_); refine goesV_ (some 19) rfl rfl rfl (by first | rfl | (simp; done)) Try.func27 (by kernel_rfl) rfl #[.int .u64 a3] (by (try simp only [List.map_toArray, List.map_cons, List.map_nil]); first | done | rfl | (simp only [List.length_drop, List.length_take]; rfl)) ?_; (with_reducible refine (word_Alu_lit1.calls a3 t103 _ A7.out).mono ?_); rintro e w' ⟨rfl, ⟨nd, rfl⟩⟩; refine ⟨_, rfl, ?_⟩) | ((with_reducible refine gate_tmp (t := 94) rfl ?_); refine goesV_ (some 96) rfl rfl rfl (by first | rfl | (simp; done)) Try.func27 (by kernel_rfl) rfl #[.int .u64 (IntKind.u64.wrap (-t102))] (by (try simp only [List.map_toArray, List.map_cons, List.map_nil]); first | done | rfl | (simp only [List.length_drop, List.length_take]; rfl)) ?_; (with_reducible refine (word_Alu_lit1.calls (IntKind.u64.wrap (-t102)) t112 _ A32.out).mono ?_); rintro e w' ⟨rfl, ⟨nd, rfl⟩⟩; refine ⟨_, rfl, ?_⟩))
           go_ret2
           exact ⟨by first | rfl | (simp; done) | (simp [*]; done), by repeat (first | exact Drawn0.refl _ | apply Drawn0.step)⟩
          ·rw [if_neg c31] at H
           have c31b0 : (a0 == 8) = false := beq_eq_false_iff_ne.mpr c31
           have c31b1 : (a0 != 8) = true := bne_iff_ne.mpr c31
           by_cases c33 : a0 = 9
           ·rw [if_pos c33] at H
            have c33b0 : (a0 == 9) = true := beq_iff_eq.mpr c33
            have c33b1 : (a0 != 9) = false := bne_eq_false_iff_eq.mpr c33
            clear c33
            by_cases c34 : t103 = 0
            ·rw [if_pos c34] at H
             have c34b0 : (t103 == 0) = true := beq_iff_eq.mpr c34
             have c34b1 : (t103 != 0) = false := bne_eq_false_iff_eq.mpr c34
             clear c34
             replace H := Option.bind_eq_some_iff.mp H; obtain ⟨t113, A350, H⟩ := H; try dsimp only at H
             have A35 := Aside0.mk A350
             clear A350
             simp only [Option.some.injEq, Prod.mk.injEq] at H
             obtain ⟨rfl, rfl⟩ := H
             go_enter Try.func13, Try.ntmps13
             go_wp2_with (first | ((with_reducible refine gate_tmp (t := 14) rfl ?_); refine goesV_ (some 16) rfl rfl rfl (by first | rfl | (simp; done)) Try.func27 (by kernel_rfl) rfl #[.int .u64 a2] (by (try simp only [List.map_toArray, List.map_cons, List.map_nil]); first | done | rfl | (simp only [List.length_drop, List.length_take]; rfl)) ?_; (with_reducible refine (word_Alu_lit1.calls a2 t102 _ A6.out).mono ?_); rintro e w' ⟨rfl, ⟨nd, rfl⟩⟩; refine ⟨_, rfl, ?_⟩) | ((with_reducible refine gate_tmp (t := 17) rfl ?_); refine goesV_ (some 19) rfl rfl rfl (by first | rfl | (simp; done)) Try.func27 (by kernel_rfl) rfl #[.int .u64 a3] (by (try simp only [List.map_toArray, List.map_cons, List.map_nil]); first | done | rfl | (simp only [List.length_drop, List.length_take]; rfl)) ?_; (with_reducible refine (word_Alu_lit1.calls a3 t103 _ A7.out).mono ?_); rintro e w' ⟨rfl, ⟨nd, rfl⟩⟩; refine ⟨_, rfl, ?_⟩) | ((with_reducible refine gate_tmp (t := 94) rfl ?_); refine goesV_ (some 96) rfl rfl rfl (by first | rfl | (simp; done)) Try.func27 (by kernel_rfl) rfl #[.int .u64 t102] (by (try simp only [List.map_toArray, List.map_cons, List.map_nil]); first | done | rfl | (simp only [List.length_drop, List.length_take]; rfl)) ?_; (with_reducible refine (word_Alu_lit1.calls t102 t113 _ A35.out).mono ?_); rintro e w' ⟨rfl, ⟨nd, rfl⟩⟩; refine ⟨_, rfl, ?_⟩))
             go_ret2
             exact ⟨by first | rfl | (simp; done) | (simp [*]; done), by repeat (first | exact Drawn0.refl _ | apply Drawn0.step)⟩
            ·rw [if_neg c34] at H
             have c34b0 : (t103 == 0) = false := beq_eq_false_iff_ne.mpr c34
             have c34b1 : (t103 != 0) = true := bne_iff_ne.mpr c34
             replace H := Option.bind_eq_some_iff.mp H; obtain ⟨t114, A360, H⟩ := H; try dsimp only at H
             have A36 := Aside0.mk A360
             clear A360
             simp only [Option.some.injEq, Prod.mk.injEq] at H
             obtain ⟨rfl, rfl⟩ := H
             go_enter Try.func13, Try.ntmps13
             go_wp2_with (first | ((with_reducible refine gate_tmp (t := 14) rfl ?_); refine goesV_ (some 16) rfl rfl rfl (by first | rfl | (simp; done)) Try.func27 (by kernel_rfl) rfl #[.int .u64 a2] (by (try simp only [List.map_toArray, List.map_cons, List.map_nil]); first | done | rfl | (simp only [List.length_drop, List.length_take]; rfl)) ?_; (with_reducible refine (word_Alu_lit1.calls a2 t102 _ A6.out).mono ?_); rintro e w' ⟨rfl, ⟨nd, rfl⟩⟩; refine ⟨_, rfl, ?_⟩) | ((with_reducible refine gate_tmp (t := 17) rfl ?_); refine goesV_ (some 19) rfl rfl rfl (by first | rfl | (simp; done)) Try.func27 (by kernel_rfl) rfl #[.int .u64 a3] (by (try simp only [List.map_toArray, List.map_cons, List.map_nil]); first | done | rfl | (simp only [List.length_drop, List.length_take]; rfl)) ?_; (with_reducible refine (word_Alu_lit1.calls a3 t103 _ A7.out).mono ?_); rintro e w' ⟨rfl, ⟨nd, rfl⟩⟩; refine ⟨_, rfl, ?_⟩) | ((with_reducible refine gate_tmp (t := 94) rfl ?_); refine goesV_ (some 96) rfl rfl rfl (by first | rfl | (simp; done)) Try.func27 (by kernel_rfl) rfl #[.int .u64 (Int.tmod t102 t103)] (by (try simp only [List.map_toArray, List.map_cons, List.map_nil]); first | done | rfl | (simp only [List.length_drop, List.length_take]; rfl)) ?_; (with_reducible refine (word_Alu_lit1.calls (Int.tmod t102 t103) t114 _ A36.out).mono ?_); rintro e w' ⟨rfl, ⟨nd, rfl⟩⟩; refine ⟨_, rfl, ?_⟩))
             go_ret2
             exact ⟨by first | rfl | (simp; done) | (simp [*]; done), by repeat (first | exact Drawn0.refl _ | apply Drawn0.step)⟩
           ·rw [if_neg c33] at H
            have c33b0 : (a0 == 9) = false := beq_eq_false_iff_ne.mpr c33
            have c33b1 : (a0 != 9) = true := bne_iff_ne.mpr c33
            by_cases c37 : a0 = 10
            ·rw [if_pos c37] at H
             have c37b0 : (a0 == 10) = true := beq_iff_eq.mpr c37
             have c37b1 : (a0 != 10) = false := bne_eq_false_iff_eq.mpr c37
             clear c37
             replace H := Option.bind_eq_some_iff.mp H; obtain ⟨t115, A380, H⟩ := H; try dsimp only at H
             have A38 := Aside0.mk A380
             clear A380
             simp only [Option.some.injEq, Prod.mk.injEq] at H
             obtain ⟨rfl, rfl⟩ := H
             go_enter Try.func13, Try.ntmps13
             go_wp2_with (first | ((with_reducible refine gate_tmp (t := 14) rfl ?_); refine goesV_ (some 16) rfl rfl rfl (by first | rfl | (simp; done)) Try.func27 (by kernel_rfl) rfl #[.int .u64 a2] (by (try simp only [List.map_toArray, List.map_cons, List.map_nil]); first | done | rfl | (simp only [List.length_drop, List.length_take]; rfl)) ?_; (with_reducible refine (word_Alu_lit1.calls a2 t102 _ A6.out).mono ?_); rintro e w' ⟨rfl, ⟨nd, rfl⟩⟩; refine ⟨_, rfl, ?_⟩) | ((with_reducible refine gate_tmp (t := 17) rfl ?_); refine goesV_ (some 19) rfl rfl rfl (by first | rfl | (simp; done)) Try.func27 (by kernel_rfl) rfl #[.int .u64 a3] (by (try simp only [List.map_toArray, List.map_cons, List.map_nil]); first | done | rfl | (simp only [List.length_drop, List.length_take]; rfl)) ?_; (with_reducible refine (word_Alu_lit1.calls a3 t103 _ A7.out).mono ?_); rintro e w' ⟨rfl, ⟨nd, rfl⟩⟩; refine ⟨_, rfl, ?_⟩) | ((with_reducible refine gate_tmp (t := 94) rfl ?_); refine goesV_ (some 96) rfl rfl rfl (by first | rfl | (simp; done)) Try.func27 (by kernel_rfl) rfl #[.int .u64 (Go.bits .xor .u64 t102 t103)] (by (try simp only [List.map_toArray, List.map_cons, List.map_nil]); first | done | rfl | (simp only [List.length_drop, List.length_take]; rfl)) ?_; (with_reducible refine (word_Alu_lit1.calls (Go.bits .xor .u64 t102 t103) t115 _ A38.out).mono ?_); rintro e w' ⟨rfl, ⟨nd, rfl⟩⟩; refine ⟨_, rfl, ?_⟩))
             go_ret2
             exact ⟨by first | rfl | (simp; done) | (simp [*]; done), by repeat (first | exact Drawn0.refl _ | apply Drawn0.step)⟩
            ·rw [if_neg c37] at H
             have c37b0 : (a0 == 10) = false := beq_eq_false_iff_ne.mpr c37
             have c37b1 : (a0 != 10) = true := bne_iff_ne.mpr c37
             by_cases c39 : a0 = 11
             ·rw [if_pos c39] at H
              have c39b0 : (a0 == 11) = true := beq_iff_eq.mpr c39
              have c39b1 : (a0 != 11) = false := bne_eq_false_iff_eq.mpr c39
              clear c39
              replace H := Option.bind_eq_some_iff.mp H; obtain ⟨t116, A400, H⟩ := H; try dsimp only at H
              have A40 := Aside0.mk A400
              clear A400
              simp only [Option.some.injEq, Prod.mk.injEq] at H
              obtain ⟨rfl, rfl⟩ := H
              go_enter Try.func13, Try.ntmps13
              go_wp2_with (first | ((with_reducible refine gate_tmp (t := 14) rfl ?_); refine goesV_ (some 16) rfl rfl rfl (by first | rfl | (simp; done)) Try.func27 (by kernel_rfl) rfl #[.int .u64 a2] (by (try simp only [List.map_toArray, List.map_cons, List.map_nil]); first | done | rfl | (simp only [List.length_drop, List.length_take]; rfl)) ?_; (with_reducible refine (word_Alu_lit1.calls a2 t102 _ A6.out).mono ?_); rintro e w' ⟨rfl, ⟨nd, rfl⟩⟩; refine ⟨_, rfl, ?_⟩) | ((with_reducible refine gate_tmp (t := 17) rfl ?_); refine goesV_ (some 19) rfl rfl rfl (by first | rfl | (simp; done)) Try.func27 (by kernel_rfl) rfl #[.int .u64 a3] (by (try simp only [List.map_toArray, List.map_cons, List.map_nil]); first | done | rfl | (simp only [List.length_drop, List.length_take]; rfl)) ?_; (with_reducible refine (word_Alu_lit1.calls a3 t103 _ A7.out).mono ?_); rintro e w' ⟨rfl, ⟨nd, rfl⟩⟩; refine ⟨_, rfl, ?_⟩) | ((with_reducible refine gate_tmp (t := 94) rfl ?_); refine goesV_ (some 96) rfl rfl rfl (by first | rfl | (simp; done)) Try.func27 (by kernel_rfl) rfl #[.int .u64 t103] (by (try simp only [List.map_toArray, List.map_cons, List.map_nil]); first | done | rfl | (simp only [List.length_drop, List.length_take]; rfl)) ?_; (with_reducible refine (word_Alu_lit1.calls t103 t116 _ A40.out).mono ?_); rintro e w' ⟨rfl, ⟨nd, rfl⟩⟩; refine ⟨_, rfl, ?_⟩))
              go_ret2
              exact ⟨by first | rfl | (simp; done) | (simp [*]; done), by repeat (first | exact Drawn0.refl _ | apply Drawn0.step)⟩
             ·rw [if_neg c39] at H
              have c39b0 : (a0 == 11) = false := beq_eq_false_iff_ne.mpr c39
              have c39b1 : (a0 != 11) = true := bne_iff_ne.mpr c39
              by_cases c41 : a0 = 12
              ·rw [if_pos c41] at H
               have c41b0 : (a0 == 12) = true := beq_iff_eq.mpr c41
               have c41b1 : (a0 != 12) = false := bne_eq_false_iff_eq.mpr c41
               clear c41
               replace H := Option.bind_eq_some_iff.mp H; obtain ⟨t117, A420, H⟩ := H; try dsimp only at H
               have A42 := Aside0.mk A420
               clear A420
               replace H := Option.bind_eq_some_iff.mp H; obtain ⟨t118, A430, H⟩ := H; try dsimp only at H
               have A43 := Aside0.mk A430
               clear A430
               simp only [Option.some.injEq, Prod.mk.injEq] at H
               obtain ⟨rfl, rfl⟩ := H
               go_enter Try.func13, Try.ntmps13
               go_wp2_with (first | ((with_reducible refine gate_tmp (t := 14) rfl ?_); refine goesV_ (some 16) rfl rfl rfl (by first | rfl | (simp; done)) Try.func27 (by kernel_rfl) rfl #[.int .u64 a2] (by (try simp only [List.map_toArray, List.map_cons, List.map_nil]); first | done | rfl | (simp only [List.length_drop, List.length_take]; rfl)) ?_; (with_reducible refine (word_Alu_lit1.calls a2 t102 _ A6.out).mono ?_); rintro e w' ⟨rfl, ⟨nd, rfl⟩⟩; refine ⟨_, rfl, ?_⟩) | ((with_reducible refine gate_tmp (t := 17) rfl ?_); refine goesV_ (some 19) rfl rfl rfl (by first | rfl | (simp; done)) Try.func27 (by kernel_rfl) rfl #[.int .u64 a3] (by (try simp only [List.map_toArray, List.map_cons, List.map_nil]); first | done | rfl | (simp only [List.length_drop, List.length_take]; rfl)) ?_; (with_reducible refine (word_Alu_lit1.calls a3 t103 _ A7.out).mono ?_); rintro e w' ⟨rfl, ⟨nd, rfl⟩⟩; refine ⟨_, rfl, ?_⟩) | ((with_reducible refine gate_callee (f := 29) rfl ?_); refine sh_call (some 93) Try.func29 #[.int .u64 t102, .int .u64 (Int.tmod t103 64), .int .u64 64] ?_; (with_reducible refine (word_down.calls t102 (Int.tmod t103 64) 64 t117 _ A42.out).mono ?_); rintro e w' ⟨rfl, ⟨nd, rfl⟩⟩; refine ⟨_, rfl, ?_⟩) | ((with_reducible refine gate_tmp (t := 94) rfl ?_); refine goesV_ (some 96) rfl rfl rfl (by first | rfl | (simp; done)) Try.func27 (by kernel_rfl) rfl #[.int .u64 t117] (by (try simp only [List.map_toArray, List.map_cons, List.map_nil]); first | done | rfl | (simp only [List.length_drop, List.length_take]; rfl)) ?_; (with_reducible refine (word_Alu_lit1.calls t117 t118 _ A43.out).mono ?_); rintro e w' ⟨rfl, ⟨nd, rfl⟩⟩; refine ⟨_, rfl, ?_⟩))
               go_ret2
               exact ⟨by first | rfl | (simp; done) | (simp [*]; done), by repeat (first | exact Drawn0.refl _ | apply Drawn0.step)⟩
              ·rw [if_neg c41] at H
               have c41b0 : (a0 == 12) = false := beq_eq_false_iff_ne.mpr c41
               have c41b1 : (a0 != 12) = true := bne_iff_ne.mpr c41
               simp only [Option.some.injEq, Prod.mk.injEq] at H
               obtain ⟨rfl, rfl⟩ := H
               go_enter Try.func13, Try.ntmps13
               go_wp2_with (first | ((with_reducible refine gate_tmp (t := 14) rfl ?_); refine goesV_ (some 16) rfl rfl rfl (by first | rfl | (simp; done)) Try.func27 (by kernel_rfl) rfl #[.int .u64 a2] (by (try simp only [List.map_toArray, List.map_cons, List.map_nil]); first | done | rfl | (simp only [List.length_drop, List.length_take]; rfl)) ?_; (with_reducible refine (word_Alu_lit1.calls a2 t102 _ A6.out).mono ?_); rintro e w' ⟨rfl, ⟨nd, rfl⟩⟩; refine ⟨_, rfl, ?_⟩) | ((with_reducible refine gate_tmp (t := 17) rfl ?_); refine goesV_ (some 19) rfl rfl rfl (by first | rfl | (simp; done)) Try.func27 (by kernel_rfl) rfl #[.int .u64 a3] (by (try simp only [List.map_toArray, List.map_cons, List.map_nil]); first | done | rfl | (simp only [List.length_drop, List.length_take]; rfl)) ?_; (with_reducible refine (word_Alu_lit1.calls a3 t103 _ A7.out).mono ?_); rintro e w' ⟨rfl, ⟨nd, rfl⟩⟩; refine ⟨_, rfl, ?_⟩))
               go_ret2
               exact ⟨by first | rfl | (simp; done) | (simp [*]; done), by repeat (first | exact Drawn0.refl _ | apply Drawn0.step)⟩
 ·replace c5 := Bool.eq_false_iff.mpr c5
  subst c5
  replace H := sh_f H
  replace H := Option.bind_eq_some_iff.mp H; obtain ⟨t119, A440, H⟩ := H; try dsimp only at H
  have A44 := Aside0.mk A440
  clear A440
  replace H := Option.bind_eq_some_iff.mp H; obtain ⟨t120, A450, H⟩ := H; try dsimp only at H
  have A45 := Aside0.mk A450
  clear A450
  by_cases c46 : a0 = 0
  ·rw [if_pos c46] at H
   have c46b0 : (a0 == 0) = true := beq_iff_eq.mpr c46
   have c46b1 : (a0 != 0) = false := bne_eq_false_iff_eq.mpr c46
   clear c46
   replace H := Option.bind_eq_some_iff.mp H; obtain ⟨t121, A470, H⟩ := H; try dsimp only at H
   have A47 := Aside0.mk A470
   clear A470
   simp only [Option.some.injEq, Prod.mk.injEq] at H
   obtain ⟨rfl, rfl⟩ := H
   go_enter Try.func13, Try.ntmps13
   go_wp2_with (first | ((with_reducible refine gate_tmp (t := 14) rfl ?_); refine goesV_ (some 16) rfl rfl rfl (by first | rfl | (simp; done)) Try.func28 (by kernel_rfl) rfl #[.int .u64 a2] (by (try simp only [List.map_toArray, List.map_cons, List.map_nil]); first | done | rfl | (simp only [List.length_drop, List.length_take]; rfl)) ?_; (with_reducible refine (word_half.calls a2 t119 _ A44.out).mono ?_); rintro e w' ⟨rfl, ⟨nd, rfl⟩⟩; refine ⟨_, rfl, ?_⟩) | ((with_reducible refine gate_tmp (t := 17) rfl ?_); refine goesV_ (some 19) rfl rfl rfl (by first | rfl | (simp; done)) Try.func28 (by kernel_rfl) rfl #[.int .u64 a3] (by (try simp only [List.map_toArray, List.map_cons, List.map_nil]); first | done | rfl | (simp only [List.length_drop, List.length_take]; rfl)) ?_; (with_reducible refine (word_half.calls a3 t120 _ A45.out).mono ?_); rintro e w' ⟨rfl, ⟨nd, rfl⟩⟩; refine ⟨_, rfl, ?_⟩) | ((with_reducible refine gate_tmp (t := 94) rfl ?_); refine goesV_ (some 96) rfl rfl rfl (by first | rfl | (simp; done)) Try.func28 (by kernel_rfl) rfl #[.int .u64 (IntKind.u64.wrap (t119 + t120))] (by (try simp only [List.map_toArray, List.map_cons, List.map_nil]); first | done | rfl | (simp only [List.length_drop, List.length_take]; rfl)) ?_; (with_reducible refine (word_half.calls (IntKind.u64.wrap (t119 + t120)) t121 _ A47.out).mono ?_); rintro e w' ⟨rfl, ⟨nd, rfl⟩⟩; refine ⟨_, rfl, ?_⟩))
   go_ret2
   exact ⟨by first | rfl | (simp; done) | (simp [*]; done), by repeat (first | exact Drawn0.refl _ | apply Drawn0.step)⟩
  ·rw [if_neg c46] at H
   have c46b0 : (a0 == 0) = false := beq_eq_false_iff_ne.mpr c46
   have c46b1 : (a0 != 0) = true := bne_iff_ne.mpr c46
   by_cases c48 : a0 = 1
   ·rw [if_pos c48] at H
    have c48b0 : (a0 == 1) = true := beq_iff_eq.mpr c48
    have c48b1 : (a0 != 1) = false := bne_eq_false_iff_eq.mpr c48
    clear c48
    replace H := Option.bind_eq_some_iff.mp H; obtain ⟨t122, A490, H⟩ := H; try dsimp only at H
    have A49 := Aside0.mk A490
    clear A490
    simp only [Option.some.injEq, Prod.mk.injEq] at H
    obtain ⟨rfl, rfl⟩ := H
    go_enter Try.func13, Try.ntmps13
    go_wp2_with (first | ((with_reducible refine gate_tmp (t := 14) rfl ?_); refine goesV_ (some 16) rfl rfl rfl (by first | rfl | (simp; done)) Try.func28 (by kernel_rfl) rfl #[.int .u64 a2] (by (try simp only [List.map_toArray, List.map_cons, List.map_nil]); first | done | rfl | (simp only [List.length_drop, List.length_take]; rfl)) ?_; (with_reducible refine (word_half.calls a2 t119 _ A44.out).mono ?_); rintro e w' ⟨rfl, ⟨nd, rfl⟩⟩; refine ⟨_, rfl, ?_⟩) | ((with_reducible refine gate_tmp (t := 17) rfl ?_); refine goesV_ (some 19) rfl rfl rfl (by first | rfl | (simp; done)) Try.func28 (by kernel_rfl) rfl #[.int .u64 a3] (by (try simp only [List.map_toArray, List.map_cons, List.map_nil]); first | done | rfl | (simp only [List.length_drop, List.length_take]; rfl)) ?_; (with_reducible refine (word_half.calls a3 t120 _ A45.out).mono ?_); rintro e w' ⟨rfl, ⟨nd, rfl⟩⟩; refine ⟨_, rfl, ?_⟩) | ((with_reducible refine gate_tmp (t := 94) rfl ?_); refine goesV_ (some 96) rfl rfl rfl (by first | rfl | (simp; done)) Try.func28 (by kernel_rfl) rfl #[.int .u64 (IntKind.u64.wrap (t119 - t120))] (by (try simp only [List.map_toArray, List.map_cons, List.map_nil]); first | done | rfl | (simp only [List.length_drop, List.length_take]; rfl)) ?_; (with_reducible refine (word_half.calls (IntKind.u64.wrap (t119 - t120)) t122 _ A49.out).mono ?_); rintro e w' ⟨rfl, ⟨nd, rfl⟩⟩; refine ⟨_, rfl, ?_⟩))
    go_ret2
    exact ⟨by first | rfl | (simp; done) | (simp [*]; done), by repeat (first | exact Drawn0.refl _ | apply Drawn0.step)⟩
   ·rw [if_neg c48] at H
    have c48b0 : (a0 == 1) = false := beq_eq_false_iff_ne.mpr c48
    have c48b1 : (a0 != 1) = true := bne_iff_ne.mpr c48
    by_cases c50 : a0 = 2
    ·rw [if_pos c50] at H
     have c50b0 : (a0 == 2) = true := beq_iff_eq.mpr c50
     have c50b1 : (a0 != 2) = false := bne_eq_false_iff_eq.mpr c50
     clear c50
     replace H := Option.bind_eq_some_iff.mp H; obtain ⟨t123, A510, H⟩ := H; try dsimp only at H
     have A51 := Aside0.mk A510
     clear A510
     simp only [Option.some.injEq, Prod.mk.injEq] at H
     obtain ⟨rfl, rfl⟩ := H
     go_enter Try.func13, Try.ntmps13
     go_wp2_with (first | ((with_reducible refine gate_tmp (t := 14) rfl ?_); refine goesV_ (some 16) rfl rfl rfl (by first | rfl | (simp; done)) Try.func28 (by kernel_rfl) rfl #[.int .u64 a2] (by (try simp only [List.map_toArray, List.map_cons, List.map_nil]); first | done | rfl | (simp only [List.length_drop, List.length_take]; rfl)) ?_; (with_reducible refine (word_half.calls a2 t119 _ A44.out).mono ?_); rintro e w' ⟨rfl, ⟨nd, rfl⟩⟩; refine ⟨_, rfl, ?_⟩) | ((with_reducible refine gate_tmp (t := 17) rfl ?_); refine goesV_ (some 19) rfl rfl rfl (by first | rfl | (simp; done)) Try.func28 (by kernel_rfl) rfl #[.int .u64 a3] (by (try simp only [List.map_toArray, List.map_cons, List.map_nil]); first | done | rfl | (simp only [List.length_drop, List.length_take]; rfl)) ?_; (with_reducible refine (word_half.calls a3 t120 _ A45.out).mono ?_); rintro e w' ⟨rfl, ⟨nd, rfl⟩⟩; refine ⟨_, rfl, ?_⟩) | ((with_reducible refine gate_tmp (t := 94) rfl ?_); refine goesV_ (some 96) rfl rfl rfl (by first | rfl | (simp; done)) Try.func28 (by kernel_rfl) rfl #[.int .u64 (IntKind.u64.wrap (t119 * t120))] (by (try simp only [List.map_toArray, List.map_cons, List.map_nil]); first | done | rfl | (simp only [List.length_drop, List.length_take]; rfl)) ?_; (with_reducible refine (word_half.calls (IntKind.u64.wrap (t119 * t120)) t123 _ A51.out).mono ?_); rintro e w' ⟨rfl, ⟨nd, rfl⟩⟩; refine ⟨_, rfl, ?_⟩))
     go_ret2
     exact ⟨by first | rfl | (simp; done) | (simp [*]; done), by repeat (first | exact Drawn0.refl _ | apply Drawn0.step)⟩
    ·rw [if_neg c50] at H
     have c50b0 : (a0 == 2) = false := beq_eq_false_iff_ne.mpr c50
     have c50b1 : (a0 != 2) = true := bne_iff_ne.mpr c50
     by_cases c52 : a0 = 3
     ·rw [if_pos c52] at H
      have c52b0 : (a0 == 3) = true := beq_iff_eq.mpr c52
      have c52b1 : (a0 != 3) = false := bne_eq_false_iff_eq.mpr c52
      clear c52
      by_cases c53 : t120 = 0
      ·rw [if_pos c53] at H
       have c53b0 : (t120 == 0) = true := beq_iff_eq.mpr c53
       have c53b1 : (t120 != 0) = false := bne_eq_false_iff_eq.mpr c53
       clear c53
       simp only [Option.some.injEq, Prod.mk.injEq] at H
       obtain ⟨rfl, rfl⟩ := H
       go_enter Try.func13, Try.ntmps13
       go_wp2_with (first | ((with_reducible refine gate_tmp (t := 14) rfl ?_); refine goesV_ (some 16) rfl rfl rfl (by first | rfl | (simp; done)) Try.func28 (by kernel_rfl) rfl #[.int .u64 a2] (by (try simp only [List.map_toArray, List.map_cons, List.map_nil]); first | done | rfl | (simp only [List.length_drop, List.length_take]; rfl)) ?_; (with_reducible refine (word_half.calls a2 t119 _ A44.out).mono ?_); rintro e w' ⟨rfl, ⟨nd, rfl⟩⟩; refine ⟨_, rfl, ?_⟩) | ((with_reducible refine gate_tmp (t := 17) rfl ?_); refine goesV_ (some 19) rfl rfl rfl (by first | rfl | (simp; done)) Try.func28 (by kernel_rfl) rfl #[.int .u64 a3] (by (try simp only [List.map_toArray, List.map_cons, List.map_nil]); first | done | rfl | (simp only [List.length_drop, List.length_take]; rfl)) ?_; (with_reducible refine (word_half.calls a3 t120 _ A45.out).mono ?_); rintro e w' ⟨rfl, ⟨nd, rfl⟩⟩; refine ⟨_, rfl, ?_⟩))
       go_ret2
       exact ⟨by first | rfl | (simp; done) | (simp [*]; done), by repeat (first | exact Drawn0.refl _ | apply Drawn0.step)⟩
      ·rw [if_neg c53] at H
       have c53b0 : (t120 == 0) = false := beq_eq_false_iff_ne.mpr c53
       have c53b1 : (t120 != 0) = true := bne_iff_ne.mpr c53
       replace H := Option.bind_eq_some_iff.mp H; obtain ⟨t124, A540, H⟩ := H; try dsimp only at H
       have A54 := Aside0.mk A540
       clear A540
       simp only [Option.some.injEq, Prod.mk.injEq] at H
       obtain ⟨rfl, rfl⟩ := H
       go_enter Try.func13, Try.ntmps13
       go_wp2_with (first | ((with_reducible refine gate_tmp (t := 14) rfl ?_); refine goesV_ (some 16) rfl rfl rfl (by first | rfl | (simp; done)) Try.func28 (by kernel_rfl) rfl #[.int .u64 a2] (by (try simp only [List.map_toArray, List.map_cons, List.map_nil]); first | done | rfl | (simp only [List.length_drop, List.length_take]; rfl)) ?_; (with_reducible refine (word_half.calls a2 t119 _ A44.out).mono ?_); rintro e w' ⟨rfl, ⟨nd, rfl⟩⟩; refine ⟨_, rfl, ?_⟩) | ((with_reducible refine gate_tmp (t := 17) rfl ?_); refine goesV_ (some 19) rfl rfl rfl (by first | rfl | (simp; done)) Try.func28 (by kernel_rfl) rfl #[.int .u64 a3] (by (try simp only [List.map_toArray, List.map_cons, List.map_nil]); first | done | rfl | (simp only [List.length_drop, List.length_take]; rfl)) ?_; (with_reducible refine (word_half.calls a3 t120 _ A45.out).mono ?_); rintro e w' ⟨rfl, ⟨nd, rfl⟩⟩; refine ⟨_, rfl, ?_⟩) | ((with_reducible refine gate_tmp (t := 94) rfl ?_); refine goesV_ (some 96) rfl rfl rfl (by first | rfl | (simp; done)) Try.func28 (by kernel_rfl) rfl #[.int .u64 (IntKind.u64.wrap (Int.tdiv t119 t120))] (by (try simp only [List.map_toArray, List.map_cons, List.map_nil]); first | done | rfl | (simp only [List.length_drop, List.length_take]; rfl)) ?_; (with_reducible refine (word_half.calls (IntKind.u64.wrap (Int.tdiv t119 t120)) t124 _ A54.out).mono ?_); rintro e w' ⟨rfl, ⟨nd, rfl⟩⟩; refine ⟨_, rfl, ?_⟩))
       go_ret2
       exact ⟨by first | rfl | (simp; done) | (simp [*]; done), by repeat (first | exact Drawn0.refl _ | apply Drawn0.step)⟩
     ·rw [if_neg c52] at H
      have c52b0 : (a0 == 3) = false := beq_eq_false_iff_ne.mpr c52
      have c52b1 : (a0 != 3) = true := bne_iff_ne.mpr c52
      by_cases c55 : a0 = 4
      ·rw [if_pos c55] at H
       have c55b0 : (a0 == 4) = true := beq_iff_eq.mpr c55
       have c55b1 : (a0 != 4) = false := bne_eq_false_iff_eq.mpr c55
       clear c55
       replace H := Option.bind_eq_some_iff.mp H; obtain ⟨t125, A560, H⟩ := H; try dsimp only at H
       have A56 := Aside0.mk A560
       clear A560
       simp only [Option.some.injEq, Prod.mk.injEq] at H
       obtain ⟨rfl, rfl⟩ := H
       go_enter Try.func13, Try.ntmps13
       go_wp2_with (first | ((with_reducible refine gate_tmp (t := 14) rfl ?_); refine goesV_ (some 16) rfl rfl rfl (by first | rfl | (simp; done)) Try.func28 (by kernel_rfl) rfl #[.int .u64 a2] (by (try simp only [List.map_toArray, List.map_cons, List.map_nil]); first | done | rfl | (simp only [List.length_drop, List.length_take]; rfl)) ?_; (with_reducible refine (word_half.calls a2 t119 _ A44.out).mono ?_); rintro e w' ⟨rfl, ⟨nd, rfl⟩⟩; refine ⟨_, rfl, ?_⟩) | ((with_reducible refine gate_tmp (t := 17) rfl ?_); refine goesV_ (some 19) rfl rfl rfl (by first | rfl | (simp; done)) Try.func28 (by kernel_rfl) rfl #[.int .u64 a3] (by (try simp only [List.map_toArray, List.map_cons, List.map_nil]); first | done | rfl | (simp only [List.length_drop, List.length_take]; rfl)) ?_; (with_reducible refine (word_half.calls a3 t120 _ A45.out).mono ?_); rintro e w' ⟨rfl, ⟨nd, rfl⟩⟩; refine ⟨_, rfl, ?_⟩) | ((with_reducible refine gate_tmp (t := 94) rfl ?_); refine goesV_ (some 96) rfl rfl rfl (by first | rfl | (simp; done)) Try.func28 (by kernel_rfl) rfl #[.int .u64 (Go.bits .or .u64 t119 t120)] (by (try simp only [List.map_toArray, List.map_cons, List.map_nil]); first | done | rfl | (simp only [List.length_drop, List.length_take]; rfl)) ?_; (with_reducible refine (word_half.calls (Go.bits .or .u64 t119 t120) t125 _ A56.out).mono ?_); rintro e w' ⟨rfl, ⟨nd, rfl⟩⟩; refine ⟨_, rfl, ?_⟩))
       go_ret2
       exact ⟨by first | rfl | (simp; done) | (simp [*]; done), by repeat (first | exact Drawn0.refl _ | apply Drawn0.step)⟩
      ·rw [if_neg c55] at H
       have c55b0 : (a0 == 4) = false := beq_eq_false_iff_ne.mpr c55
       have c55b1 : (a0 != 4) = true := bne_iff_ne.mpr c55
       by_cases c57 : a0 = 5
       ·rw [if_pos c57] at H
        have c57b0 : (a0 == 5) = true := beq_iff_eq.mpr c57
        have c57b1 : (a0 != 5) = false := bne_eq_false_iff_eq.mpr c57
        clear c57
        replace H := Option.bind_eq_some_iff.mp H; obtain ⟨t126, A580, H⟩ := H; try dsimp only at H
        have A58 := Aside0.mk A580
        clear A580
        simp only [Option.some.injEq, Prod.mk.injEq] at H
        obtain ⟨rfl, rfl⟩ := H
        go_enter Try.func13, Try.ntmps13
        go_wp2_with (first | ((with_reducible refine gate_tmp (t := 14) rfl ?_); refine goesV_ (some 16) rfl rfl rfl (by first | rfl | (simp; done)) Try.func28 (by kernel_rfl) rfl #[.int .u64 a2] (by (try simp only [List.map_toArray, List.map_cons, List.map_nil]); first | done | rfl | (simp only [List.length_drop, List.length_take]; rfl)) ?_; (with_reducible refine (word_half.calls a2 t119 _ A44.out).mono ?_); rintro e w' ⟨rfl, ⟨nd, rfl⟩⟩; refine ⟨_, rfl, ?_⟩) | ((with_reducible refine gate_tmp (t := 17) rfl ?_); refine goesV_ (some 19) rfl rfl rfl (by first | rfl | (simp; done)) Try.func28 (by kernel_rfl) rfl #[.int .u64 a3] (by (try simp only [List.map_toArray, List.map_cons, List.map_nil]); first | done | rfl | (simp only [List.length_drop, List.length_take]; rfl)) ?_; (with_reducible refine (word_half.calls a3 t120 _ A45.out).mono ?_); rintro e w' ⟨rfl, ⟨nd, rfl⟩⟩; refine ⟨_, rfl, ?_⟩) | ((with_reducible refine gate_tmp (t := 94) rfl ?_); refine goesV_ (some 96) rfl rfl rfl (by first | rfl | (simp; done)) Try.func28 (by kernel_rfl) rfl #[.int .u64 (Go.bits .and .u64 t119 t120)] (by (try simp only [List.map_toArray, List.map_cons, List.map_nil]); first | done | rfl | (simp only [List.length_drop, List.length_take]; rfl)) ?_; (with_reducible refine (word_half.calls (Go.bits .and .u64 t119 t120) t126 _ A58.out).mono ?_); rintro e w' ⟨rfl, ⟨nd, rfl⟩⟩; refine ⟨_, rfl, ?_⟩))
        go_ret2
        exact ⟨by first | rfl | (simp; done) | (simp [*]; done), by repeat (first | exact Drawn0.refl _ | apply Drawn0.step)⟩
       ·rw [if_neg c57] at H
        have c57b0 : (a0 == 5) = false := beq_eq_false_iff_ne.mpr c57
        have c57b1 : (a0 != 5) = true := bne_iff_ne.mpr c57
        by_cases c59 : a0 = 6
        ·rw [if_pos c59] at H
         have c59b0 : (a0 == 6) = true := beq_iff_eq.mpr c59
         have c59b1 : (a0 != 6) = false := bne_eq_false_iff_eq.mpr c59
         clear c59
         obtain ⟨ji60, hji60⟩ : ∃ j_ : Int, (Int.tmod t120 32) = j_ := ⟨_, rfl⟩
         replace H : (if 0 ≤ (ji60) then ((word_half.f (shl .u64 t119 (ji60))).bind fun t127 => (some (t127, 0))) else (none)) = some (r1, r2) := by first | (rw [hji60] at H; exact H) | (simp only [hji60] at H ⊢; exact H)
         (try rw [hji60] at A44)
         (try rw [hji60] at A45)
         by_cases c61 : 0 ≤ (ji60)
         ·rw [if_pos c61] at H
          have c61b0 := eq_true c61
          have c61b1 : decide (0 ≤ (ji60)) = true := decide_eq_true c61
          clear c61
          obtain ⟨ji62, hji62⟩ : ∃ j_ : Int, (shl .u64 t119 (ji60)) = j_ := ⟨_, rfl⟩
          replace H : ((word_half.f (ji62)).bind fun t127 => (some (t127, 0))) = some (r1, r2) := by first | (rw [hji62] at H; exact H) | (simp only [hji62] at H ⊢; exact H)
          (try rw [hji62] at A44)
          (try rw [hji62] at A45)
          have hji62_ : (IntKind.u64.wrap (t119 * 2 ^ min (ji60).toNat 64)) = ji62 := hji62
          have hji62z : (ji60) ≤ 64 → (IntKind.u64.wrap (t119 * 2 ^ (ji60).toNat)) = ji62 := shl_small hji62
          replace H := Option.bind_eq_some_iff.mp H; obtain ⟨t127, A630, H⟩ := H; try dsimp only at H
          have A63 := Aside0.mk A630
          clear A630
          simp only [Option.some.injEq, Prod.mk.injEq] at H
          obtain ⟨rfl, rfl⟩ := H
          go_enter Try.func13, Try.ntmps13
          go_wp2_with (first | ((with_reducible refine gate_tmp (t := 14) rfl ?_); refine goesV_ (some 16) rfl rfl rfl (by first | rfl | (simp; done)) Try.func28 (by kernel_rfl) rfl #[.int .u64 a2] (by (try simp only [List.map_toArray, List.map_cons, List.map_nil]); first | done | rfl | (simp only [List.length_drop, List.length_take]; rfl)) ?_; (with_reducible refine (word_half.calls a2 t119 _ A44.out).mono ?_); rintro e w' ⟨rfl, ⟨nd, rfl⟩⟩; refine ⟨_, rfl, ?_⟩) | ((with_reducible refine gate_tmp (t := 17) rfl ?_); refine goesV_ (some 19) rfl rfl rfl (by first | rfl | (simp; done)) Try.func28 (by kernel_rfl) rfl #[.int .u64 a3] (by (try simp only [List.map_toArray, List.map_cons, List.map_nil]); first | done | rfl | (simp only [List.length_drop, List.length_take]; rfl)) ?_; (with_reducible refine (word_half.calls a3 t120 _ A45.out).mono ?_); rintro e w' ⟨rfl, ⟨nd, rfl⟩⟩; refine ⟨_, rfl, ?_⟩) | ((with_reducible refine gate_tmp (t := 94) rfl ?_); refine goesV_ (some 96) rfl rfl rfl (by first | rfl | (simp; done)) Try.func28 (by kernel_rfl) rfl #[.int .u64 ji62] (by (try simp only [List.map_toArray, List.map_cons, List.map_nil]); first | done | (simp only [hji62]; rfl) | rfl | (simp only [List.length_drop, List.length_take]; rfl)) ?_; (with_reducible refine (word_half.calls ji62 t127 _ A63.out).mono ?_); rintro e w' ⟨rfl, ⟨nd, rfl⟩⟩; refine ⟨_, rfl, ?_⟩))
          go_ret2
          exact ⟨by first | rfl | (simp; done) | (simp only [← hji60, ← hji62] <;> (first | rfl | simp)) | (simp [*]; done), by repeat (first | exact Drawn0.refl _ | apply Drawn0.step)⟩
         ·rw [if_neg c61] at H
          exact absurd H (by simp)
        ·rw [if_neg c59] at H
         have c59b0 : (a0 == 6) = false := beq_eq_false_iff_ne.mpr c59
         have c59b1 : (a0 != 6) = true := bne_iff_ne.mpr c59
         by_cases c64 : a0 = 7
         ·rw [if_pos c64] at H
          have c64b0 : (a0 == 7) = true := beq_iff_eq.mpr c64
          have c64b1 : (a0 != 7) = false := bne_eq_false_iff_eq.mpr c64
          clear c64
          obtain ⟨ji65, hji65⟩ : ∃ j_ : Int, (Int.tmod t120 32) = j_ := ⟨_, rfl⟩
          replace H : (if 0 ≤ (ji65) then ((word_half.f (shr .u64 t119 (ji65))).bind fun t128 => (some (t128, 0))) else (none)) = some (r1, r2) := by first | (rw [hji65] at H; exact H) | (simp only [hji65] at H ⊢; exact H)
          (try rw [hji65] at A44)
          (try rw [hji65] at A45)
          by_cases c66 : 0 ≤ (ji65)
          ·rw [if_pos c66] at H
           have c66b0 := eq_true c66
           have c66b1 : decide (0 ≤ (ji65)) = true := decide_eq_true c66
           clear c66
           obtain ⟨ji67, hji67⟩ : ∃ j_ : Int, (shr .u64 t119 (ji65)) = j_ := ⟨_, rfl⟩
           replace H : ((word_half.f (ji67)).bind fun t128 => (some (t128, 0))) = some (r1, r2) := by first | (rw [hji67] at H; exact H) | (simp only [hji67] at H ⊢; exact H)
           (try rw [hji67] at A44)
           (try rw [hji67] at A45)
           have hji67_ : (t119 / 2 ^ min (ji65).toNat 64) = ji67 := hji67
           have hji67z : (ji65) ≤ 64 → (t119 / 2 ^ (ji65).toNat) = ji67 := shr_small hji67
           replace H := Option.bind_eq_some_iff.mp H; obtain ⟨t128, A680, H⟩ := H; try dsimp only at H
           have A68 := Aside0.mk A680
           clear A680
           simp only [Option.some.injEq, Prod.mk.injEq] at H
           obtain ⟨rfl, rfl⟩ := H
           go_enter Try.func13, Try.ntmps13
           go_wp2_with (first | ((with_reducible refine gate_tmp (t := 14) rfl ?_); refine goesV_ (some 16) rfl rfl rfl (by first | rfl | (simp; done)) Try.func28 (by kernel_rfl) rfl #[.int .u64 a2] (by (try simp only [List.map_toArray, List.map_cons, List.map_nil]); first | done | rfl | (simp only [List.length_drop, List.length_take]; rfl)) ?_; (with_reducible refine (word_half.calls a2 t119 _ A44.out).mono ?_); rintro e w' ⟨rfl, ⟨nd, rfl⟩⟩; refine ⟨_, rfl, ?_⟩) | ((with_reducible refine gate_tmp (t := 17) rfl ?_); refine goesV_ (some 19) rfl rfl rfl (by first | rfl | (simp; done)) Try.func28 (by kernel_rfl) rfl #[.int .u64 a3] (by (try simp only [List.map_toArray, List.map_cons, List.map_nil]); first | done | rfl | (simp only [List.length_drop, List.length_take]; rfl)) ?_; (with_reducible refine (word_half.calls a3 t120 _ A45.out).mono ?_); rintro e w' ⟨rfl, ⟨nd, rfl⟩⟩; refine ⟨_, rfl, ?_⟩) | ((with_reducible refine gate_tmp (t := 94) rfl ?_); refine goesV_ (some 96) rfl rfl rfl (by first | rfl | (simp; done)) Try.func28 (by kernel_rfl) rfl #[.int .u64 ji67] (by (try simp only [List.map_toArray, List.map_cons, List.map_nil]); first | done | (simp only [hji67]; rfl) | rfl | (simp only [List.length_drop, List.length_take]; rfl)) ?_; (with_reducible refine (word_half.calls ji67 t128 _ A68.out).mono ?_); rintro e w' ⟨rfl, ⟨nd, rfl⟩⟩; refine ⟨_, rfl, ?_⟩))
           go_ret2
           exact ⟨by first | rfl | (simp; done) | (simp only [← hji65, ← hji67] <;> (first | rfl | simp)) | (simp [*]; done), by repeat (first | exact Drawn0.refl _ | apply Drawn0.step)⟩
          ·rw [if_neg c66] at H
           exact absurd H (by simp)
         ·rw [if_neg c64] at H
          have c64b0 : (a0 == 7) = false := beq_eq_false_iff_ne.mpr c64
          have c64b1 : (a0 != 7) = true := bne_iff_ne.mpr c64
          by_cases c69 : a0 = 8
          ·rw [if_pos c69] at H
           have c69b0 : (a0 == 8) = true := beq_iff_eq.mpr c69
           have c69b1 : (a0 != 8) = false := bne_eq_false_iff_eq.mpr c69
           clear c69
           replace H := Option.bind_eq_some_iff.mp H; obtain ⟨t129, A700, H⟩ := H; try dsimp only at H
           have A70 := Aside0.mk A700
           clear A700
           simp only [Option.some.injEq, Prod.mk.injEq] at H
           obtain ⟨rfl, rfl⟩ := H
           go_enter Try.func13, Try.ntmps13
           go_wp2_with (first | ((with_reducible refine gate_tmp (t := 14) rfl ?_); refine goesV_ (some 16) rfl rfl rfl (by first | rfl | (simp; done)) Try.func28 (by kernel_rfl) rfl #[.int .u64 a2] (by (try simp only [List.map_toArray, List.map_cons, List.map_nil]); first | done | rfl | (simp only [List.length_drop, List.length_take]; rfl)) ?_; (with_reducible refine (word_half.calls a2 t119 _ A44.out).mono ?_); rintro e w' ⟨rfl, ⟨nd, rfl⟩⟩; refine ⟨_, rfl, ?_⟩) | ((with_reducible refine gate_tmp (t := 17) rfl ?_); refine goesV_ (some 19) rfl rfl rfl (by first | rfl | (simp; done)) Try.func28 (by kernel_rfl) rfl #[.int .u64 a3] (by (try simp only [List.map_toArray, List.map_cons, List.map_nil]); first | done | rfl | (simp only [List.length_drop, List.length_take]; rfl)) ?_; (with_reducible refine (word_half.calls a3 t120 _ A45.out).mono ?_); rintro e w' ⟨rfl, ⟨nd, rfl⟩⟩; refine ⟨_, rfl, ?_⟩) | ((with_reducible refine gate_tmp (t := 94) rfl ?_); refine goesV_ (some 96) rfl rfl rfl (by first | rfl | (simp; done)) Try.func28 (by kernel_rfl) rfl #[.int .u64 (IntKind.u64.wrap (-t119))] (by (try simp only [List.map_toArray, List.map_cons, List.map_nil]); first | done | rfl | (simp only [List.length_drop, List.length_take]; rfl)) ?_; (with_reducible refine (word_half.calls (IntKind.u64.wrap (-t119)) t129 _ A70.out).mono ?_); rintro e w' ⟨rfl, ⟨nd, rfl⟩⟩; refine ⟨_, rfl, ?_⟩))
           go_ret2
           exact ⟨by first | rfl | (simp; done) | (simp [*]; done), by repeat (first | exact Drawn0.refl _ | apply Drawn0.step)⟩
          ·rw [if_neg c69] at H
           have c69b0 : (a0 == 8) = false := beq_eq_false_iff_ne.mpr c69
           have c69b1 : (a0 != 8) = true := bne_iff_ne.mpr c69
           by_cases c71 : a0 = 9
           ·rw [if_pos c71] at H
            have c71b0 : (a0 == 9) = true := beq_iff_eq.mpr c71
            have c71b1 : (a0 != 9) = false := bne_eq_false_iff_eq.mpr c71
            clear c71
            by_cases c72 : t120 = 0
            ·rw [if_pos c72] at H
             have c72b0 : (t120 == 0) = true := beq_iff_eq.mpr c72
             have c72b1 : (t120 != 0) = false := bne_eq_false_iff_eq.mpr c72
             clear c72
             replace H := Option.bind_eq_some_iff.mp H; obtain ⟨t130, A730, H⟩ := H; try dsimp only at H
             have A73 := Aside0.mk A730
             clear A730
             simp only [Option.some.injEq, Prod.mk.injEq] at H
             obtain ⟨rfl, rfl⟩ := H
             go_enter Try.func13, Try.ntmps13
             go_wp2_with (first | ((with_reducible refine gate_tmp (t := 14) rfl ?_); refine goesV_ (some 16) rfl rfl rfl (by first | rfl | (simp; done)) Try.func28 (by kernel_rfl) rfl #[.int .u64 a2] (by (try simp only [List.map_toArray, List.map_cons, List.map_nil]); first | done | rfl | (simp only [List.length_drop, List.length_take]; rfl)) ?_; (with_reducible refine (word_half.calls a2 t119 _ A44.out).mono ?_); rintro e w' ⟨rfl, ⟨nd, rfl⟩⟩; refine ⟨_, rfl, ?_⟩) | ((with_reducible refine gate_tmp (t := 17) rfl ?_); refine goesV_ (some 19) rfl rfl rfl (by first | rfl | (simp; done)) Try.func28 (by kernel_rfl) rfl #[.int .u64 a3] (by (try simp only [List.map_toArray, List.map_cons, List.map_nil]); first | done | rfl | (simp only [List.length_drop, List.length_take]; rfl)) ?_; (with_reducible refine (word_half.calls a3 t120 _ A45.out).mono ?_); rintro e w' ⟨rfl, ⟨nd, rfl⟩⟩; refine ⟨_, rfl, ?_⟩) | ((with_reducible refine gate_tmp (t := 94) rfl ?_); refine goesV_ (some 96) rfl rfl rfl (by first | rfl | (simp; done)) Try.func28 (by kernel_rfl) rfl #[.int .u64 t119] (by (try simp only [List.map_toArray, List.map_cons, List.map_nil]); first | done | rfl | (simp only [List.length_drop, List.length_take]; rfl)) ?_; (with_reducible refine (word_half.calls t119 t130 _ A73.out).mono ?_); rintro e w' ⟨rfl, ⟨nd, rfl⟩⟩; refine ⟨_, rfl, ?_⟩))
             go_ret2
             exact ⟨by first | rfl | (simp; done) | (simp [*]; done), by repeat (first | exact Drawn0.refl _ | apply Drawn0.step)⟩
            ·rw [if_neg c72] at H
             have c72b0 : (t120 == 0) = false := beq_eq_false_iff_ne.mpr c72
             have c72b1 : (t120 != 0) = true := bne_iff_ne.mpr c72
             replace H := Option.bind_eq_some_iff.mp H; obtain ⟨t131, A740, H⟩ := H; try dsimp only at H
             have A74 := Aside0.mk A740
             clear A740
             simp only [Option.some.injEq, Prod.mk.injEq] at H
             obtain ⟨rfl, rfl⟩ := H
             go_enter Try.func13, Try.ntmps13
             go_wp2_with (first | ((with_reducible refine gate_tmp (t := 14) rfl ?_); refine goesV_ (some 16) rfl rfl rfl (by first | rfl | (simp; done)) Try.func28 (by kernel_rfl) rfl #[.int .u64 a2] (by (try simp only [List.map_toArray, List.map_cons, List.map_nil]); first | done | rfl | (simp only [List.length_drop, List.length_take]; rfl)) ?_; (with_reducible refine (word_half.calls a2 t119 _ A44.out).mono ?_); rintro e w' ⟨rfl, ⟨nd, rfl⟩⟩; refine ⟨_, rfl, ?_⟩) | ((with_reducible refine gate_tmp (t := 17) rfl ?_); refine goesV_ (some 19) rfl rfl rfl (by first | rfl | (simp; done)) Try.func28 (by kernel_rfl) rfl #[.int .u64 a3] (by (try simp only [List.map_toArray, List.map_cons, List.map_nil]); first | done | rfl | (simp only [List.length_drop, List.length_take]; rfl)) ?_; (with_reducible refine (word_half.calls a3 t120 _ A45.out).mono ?_); rintro e w' ⟨rfl, ⟨nd, rfl⟩⟩; refine ⟨_, rfl, ?_⟩) | ((with_reducible refine gate_tmp (t := 94) rfl ?_); refine goesV_ (some 96) rfl rfl rfl (by first | rfl | (simp; done)) Try.func28 (by kernel_rfl) rfl #[.int .u64 (Int.tmod t119 t120)] (by (try simp only [List.map_toArray, List.map_cons, List.map_nil]); first | done | rfl | (simp only [List.length_drop, List.length_take]; rfl)) ?_; (with_reducible refine (word_half.calls (Int.tmod t119 t120) t131 _ A74.out).mono ?_); rintro e w' ⟨rfl, ⟨nd, rfl⟩⟩; refine ⟨_, rfl, ?_⟩))
             go_ret2
             exact ⟨by first | rfl | (simp; done) | (simp [*]; done), by repeat (first | exact Drawn0.refl _ | apply Drawn0.step)⟩
           ·rw [if_neg c71] at H
            have c71b0 : (a0 == 9) = false := beq_eq_false_iff_ne.mpr c71
            have c71b1 : (a0 != 9) = true := bne_iff_ne.mpr c71
            by_cases c75 : a0 = 10
            ·rw [if_pos c75] at H
             have c75b0 : (a0 == 10) = true := beq_iff_eq.mpr c75
             have c75b1 : (a0 != 10) = false := bne_eq_false_iff_eq.mpr c75
             clear c75
             replace H := Option.bind_eq_some_iff.mp H; obtain ⟨t132, A760, H⟩ := H; try dsimp only at H
             have A76 := Aside0.mk A760
             clear A760
             simp only [Option.some.injEq, Prod.mk.injEq] at H
             obtain ⟨rfl, rfl⟩ := H
             go_enter Try.func13, Try.ntmps13
             go_wp2_with (first | ((with_reducible refine gate_tmp (t := 14) rfl ?_); refine goesV_ (some 16) rfl rfl rfl (by first | rfl | (simp; done)) Try.func28 (by kernel_rfl) rfl #[.int .u64 a2] (by (try simp only [List.map_toArray, List.map_cons, List.map_nil]); first | done | rfl | (simp only [List.length_drop, List.length_take]; rfl)) ?_; (with_reducible refine (word_half.calls a2 t119 _ A44.out).mono ?_); rintro e w' ⟨rfl, ⟨nd, rfl⟩⟩; refine ⟨_, rfl, ?_⟩) | ((with_reducible refine gate_tmp (t := 17) rfl ?_); refine goesV_ (some 19) rfl rfl rfl (by first | rfl | (simp; done)) Try.func28 (by kernel_rfl) rfl #[.int .u64 a3] (by (try simp only [List.map_toArray, List.map_cons, List.map_nil]); first | done | rfl | (simp only [List.length_drop, List.length_take]; rfl)) ?_; (with_reducible refine (word_half.calls a3 t120 _ A45.out).mono ?_); rintro e w' ⟨rfl, ⟨nd, rfl⟩⟩; refine ⟨_, rfl, ?_⟩) | ((with_reducible refine gate_tmp (t := 94) rfl ?_); refine goesV_ (some 96) rfl rfl rfl (by first | rfl | (simp; done)) Try.func28 (by kernel_rfl) rfl #[.int .u64 (Go.bits .xor .u64 t119 t120)] (by (try simp only [List.map_toArray, List.map_cons, List.map_nil]); first | done | rfl | (simp only [List.length_drop, List.length_take]; rfl)) ?_; (with_reducible refine (word_half.calls (Go.bits .xor .u64 t119 t120) t132 _ A76.out).mono ?_); rintro e w' ⟨rfl, ⟨nd, rfl⟩⟩; refine ⟨_, rfl, ?_⟩))
             go_ret2
             exact ⟨by first | rfl | (simp; done) | (simp [*]; done), by repeat (first | exact Drawn0.refl _ | apply Drawn0.step)⟩
            ·rw [if_neg c75] at H
             have c75b0 : (a0 == 10) = false := beq_eq_false_iff_ne.mpr c75
             have c75b1 : (a0 != 10) = true := bne_iff_ne.mpr c75
             by_cases c77 : a0 = 11
             ·rw [if_pos c77] at H
              have c77b0 : (a0 == 11) = true := beq_iff_eq.mpr c77
              have c77b1 : (a0 != 11) = false := bne_eq_false_iff_eq.mpr c77
              clear c77
              replace H := Option.bind_eq_some_iff.mp H; obtain ⟨t133, A780, H⟩ := H; try dsimp only at H
              have A78 := Aside0.mk A780
              clear A780
              simp only [Option.some.injEq, Prod.mk.injEq] at H
              obtain ⟨rfl, rfl⟩ := H
              go_enter Try.func13, Try.ntmps13
              go_wp2_with (first | ((with_reducible refine gate_tmp (t := 14) rfl ?_); refine goesV_ (some 16) rfl rfl rfl (by first | rfl | (simp; done)) Try.func28 (by kernel_rfl) rfl #[.int .u64 a2] (by (try simp only [List.map_toArray, List.map_cons, List.map_nil]); first | done | rfl | (simp only [List.length_drop, List.length_take]; rfl)) ?_; (with_reducible refine (word_half.calls a2 t119 _ A44.out).mono ?_); rintro e w' ⟨rfl, ⟨nd, rfl⟩⟩; refine ⟨_, rfl, ?_⟩) | ((with_reducible refine gate_tmp (t := 17) rfl ?_); refine goesV_ (some 19) rfl rfl rfl (by first | rfl | (simp; done)) Try.func28 (by kernel_rfl) rfl #[.int .u64 a3] (by (try simp only [List.map_toArray, List.map_cons, List.map_nil]); first | done | rfl | (simp only [List.length_drop, List.length_take]; rfl)) ?_; (with_reducible refine (word_half.calls a3 t120 _ A45.out).mono ?_); rintro e w' ⟨rfl, ⟨nd, rfl⟩⟩; refine ⟨_, rfl, ?_⟩) | ((with_reducible refine gate_tmp (t := 94) rfl ?_); refine goesV_ (some 96) rfl rfl rfl (by first | rfl | (simp; done)) Try.func28 (by kernel_rfl) rfl #[.int .u64 t120] (by (try simp only [List.map_toArray, List.map_cons, List.map_nil]); first | done | rfl | (simp only [List.length_drop, List.length_take]; rfl)) ?_; (with_reducible refine (word_half.calls t120 t133 _ A78.out).mono ?_); rintro e w' ⟨rfl, ⟨nd, rfl⟩⟩; refine ⟨_, rfl, ?_⟩))
              go_ret2
              exact ⟨by first | rfl | (simp; done) | (simp [*]; done), by repeat (first | exact Drawn0.refl _ | apply Drawn0.step)⟩
             ·rw [if_neg c77] at H
              have c77b0 : (a0 == 11) = false := beq_eq_false_iff_ne.mpr c77
              have c77b1 : (a0 != 11) = true := bne_iff_ne.mpr c77
              by_cases c79 : a0 = 12
              ·rw [if_pos c79] at H
               have c79b0 : (a0 == 12) = true := beq_iff_eq.mpr c79
               have c79b1 : (a0 != 12) = false := bne_eq_false_iff_eq.mpr c79
               clear c79
               replace H := Option.bind_eq_some_iff.mp H; obtain ⟨t134, A800, H⟩ := H; try dsimp only at H
               have A80 := Aside0.mk A800
               clear A800
               replace H := Option.bind_eq_some_iff.mp H; obtain ⟨t135, A810, H⟩ := H; try dsimp only at H
               have A81 := Aside0.mk A810
               clear A810
               simp only [Option.some.injEq, Prod.mk.injEq] at H
               obtain ⟨rfl, rfl⟩ := H
               go_enter Try.func13, Try.ntmps13
               go_wp2_with (first | ((with_reducible refine gate_tmp (t := 14) rfl ?_); refine goesV_ (some 16) rfl rfl rfl (by first | rfl | (simp; done)) Try.func28 (by kernel_rfl) rfl #[.int .u64 a2] (by (try simp only [List.map_toArray, List.map_cons, List.map_nil]); first | done | rfl | (simp only [List.length_drop, List.length_take]; rfl)) ?_; (with_reducible refine (word_half.calls a2 t119 _ A44.out).mono ?_); rintro e w' ⟨rfl, ⟨nd, rfl⟩⟩; refine ⟨_, rfl, ?_⟩) | ((with_reducible refine gate_tmp (t := 17) rfl ?_); refine goesV_ (some 19) rfl rfl rfl (by first | rfl | (simp; done)) Try.func28 (by kernel_rfl) rfl #[.int .u64 a3] (by (try simp only [List.map_toArray, List.map_cons, List.map_nil]); first | done | rfl | (simp only [List.length_drop, List.length_take]; rfl)) ?_; (with_reducible refine (word_half.calls a3 t120 _ A45.out).mono ?_); rintro e w' ⟨rfl, ⟨nd, rfl⟩⟩; refine ⟨_, rfl, ?_⟩) | ((with_reducible refine gate_callee (f := 29) rfl ?_); refine sh_call (some 93) Try.func29 #[.int .u64 t119, .int .u64 (Int.tmod t120 32), .int .u64 32] ?_; (with_reducible refine (word_down.calls t119 (Int.tmod t120 32) 32 t134 _ A80.out).mono ?_); rintro e w' ⟨rfl, ⟨nd, rfl⟩⟩; refine ⟨_, rfl, ?_⟩) | ((with_reducible refine gate_tmp (t := 94) rfl ?_); refine goesV_ (some 96) rfl rfl rfl (by first | rfl | (simp; done)) Try.func28 (by kernel_rfl) rfl #[.int .u64 t134] (by (try simp only [List.map_toArray, List.map_cons, List.map_nil]); first | done | rfl | (simp only [List.length_drop, List.length_take]; rfl)) ?_; (with_reducible refine (word_half.calls t134 t135 _ A81.out).mono ?_); rintro e w' ⟨rfl, ⟨nd, rfl⟩⟩; refine ⟨_, rfl, ?_⟩))
               go_ret2
               exact ⟨by first | rfl | (simp; done) | (simp [*]; done), by repeat (first | exact Drawn0.refl _ | apply Drawn0.step)⟩
              ·rw [if_neg c79] at H
               have c79b0 : (a0 == 12) = false := beq_eq_false_iff_ne.mpr c79
               have c79b1 : (a0 != 12) = true := bne_iff_ne.mpr c79
               simp only [Option.some.injEq, Prod.mk.injEq] at H
               obtain ⟨rfl, rfl⟩ := H
               go_enter Try.func13, Try.ntmps13
               go_wp2_with (first | ((with_reducible refine gate_tmp (t := 14) rfl ?_); refine goesV_ (some 16) rfl rfl rfl (by first | rfl | (simp; done)) Try.func28 (by kernel_rfl) rfl #[.int .u64 a2] (by (try simp only [List.map_toArray, List.map_cons, List.map_nil]); first | done | rfl | (simp only [List.length_drop, List.length_take]; rfl)) ?_; (with_reducible refine (word_half.calls a2 t119 _ A44.out).mono ?_); rintro e w' ⟨rfl, ⟨nd, rfl⟩⟩; refine ⟨_, rfl, ?_⟩) | ((with_reducible refine gate_tmp (t := 17) rfl ?_); refine goesV_ (some 19) rfl rfl rfl (by first | rfl | (simp; done)) Try.func28 (by kernel_rfl) rfl #[.int .u64 a3] (by (try simp only [List.map_toArray, List.map_cons, List.map_nil]); first | done | rfl | (simp only [List.length_drop, List.length_take]; rfl)) ?_; (with_reducible refine (word_half.calls a3 t120 _ A45.out).mono ?_); rintro e w' ⟨rfl, ⟨nd, rfl⟩⟩; refine ⟨_, rfl, ?_⟩))
               go_ret2
               exact ⟨by first | rfl | (simp; done) | (simp [*]; done), by repeat (first | exact Drawn0.refl _ | apply Drawn0.step)⟩

/-! ### stockaderef01_Fit: function 30 -/
def stockaderef01_Fit.f (a0 : Bool) (a1 : Int) : Option (Int) := if a0 = true then (some a1) else (some (Int.tmod a1 4294967296))
set_option maxHeartbeats 8000000 in
set_option maxRecDepth 100000 in
theorem stockaderef01_Fit.calls (a0 : Bool) (a1 : Int) (r : Int) (w : World) (h : stockaderef01_Fit.f a0 a1 = some r) :
  Calls Try.prog 30 #[.bool a0, .int .u64 a1] w fun e w' => e = .returned (.int .u64 r) ∧ Drawn0 w w' := by
 have H : (if a0 = true then (some a1) else (some (Int.tmod a1 4294967296))) = some r := h
 clear h
 by_cases c3 : a0 = true
 ·subst c3
  replace H := sh_t H
  obtain rfl := Option.some.inj H
  go_enter Try.func30, Try.ntmps30
  go_wp2
  go_ret
  exact ⟨by first | rfl | (simp; done) | (simp [*]; done), by repeat (first | exact Drawn0.refl _ | apply Drawn0.step)⟩
 ·replace c3 := Bool.eq_false_iff.mpr c3
  subst c3
  replace H := sh_f H
  obtain rfl := Option.some.inj H
  go_enter Try.func30, Try.ntmps30
  go_wp2
  go_ret
  exact ⟨by first | rfl | (simp; done) | (simp [*]; done), by repeat (first | exact Drawn0.refl _ | apply Drawn0.step)⟩

/-! ### stockaderef01_Size: function 31 -/
def stockaderef01_Size.f (a0 : Bool) : Option (Int) := if a0 = true then (some 64) else (some 32)
set_option maxHeartbeats 8000000 in
set_option maxRecDepth 100000 in
theorem stockaderef01_Size.calls (a0 : Bool) (r : Int) (w : World) (h : stockaderef01_Size.f a0 = some r) :
  Calls Try.prog 31 #[.bool a0] w fun e w' => e = .returned (.int .u64 r) ∧ Drawn0 w w' := by
 have H : (if a0 = true then (some 64) else (some 32)) = some r := h
 clear h
 by_cases c2 : a0 = true
 ·subst c2
  replace H := sh_t H
  obtain rfl := Option.some.inj H
  go_enter Try.func31, Try.ntmps31
  go_wp2
  go_ret
  exact ⟨by first | rfl | (simp; done) | (simp [*]; done), by repeat (first | exact Drawn0.refl _ | apply Drawn0.step)⟩
 ·replace c2 := Bool.eq_false_iff.mpr c2
  subst c2
  replace H := sh_f H
  obtain rfl := Option.some.inj H
  go_enter Try.func31, Try.ntmps31
  go_wp2
  go_ret
  exact ⟨by first | rfl | (simp; done) | (simp [*]; done), by repeat (first | exact Drawn0.refl _ | apply Drawn0.step)⟩

end Go.Proofs.Ytgmgnlmhfhdfgaa.P
