/- Made by this session's driver over the kit's printer: for each Go function a Lean function with the same answers, and a proof that the Go call comes to these answers; no conditions but the ones each theorem names. -/
import Derived.Test.YtgmgnlmhfhdfgaaPx0
import Derived.Test.YtgmgnlmhfhdfgaaPx1
import Derived.Test.YtgmgnlmhfhdfgaaPx2
namespace Go.Proofs.Ytgmgnlmhfhdfgaa.P
open Go.RowKit Go.Proofs.YtgmgnlmhfhdfgaaW.PrintWords Go.Proofs.YtgmgnlmhfhdfgaaW.PrintLast Go.Proofs.YtgmgnlmhfhdfgaaW.PrintMore
attribute [local go_sem] max2_int min2_int max_two min_two max_three min_three max_four min_four   -- for this text's walks alone
set_option linter.unusedVariables false
set_option linter.unusedSimpArgs false

/-! ### word_Swap: function 18 -/
def word_Swap.f (a0 : Int) (a1 : Int) : Option (Int × Int) := if a0 = 16 then ((bits_ReverseBytes64.f a1).bind fun t160 => (if 0 ≤ (IntKind.u64.wrap (wrap64 (64 - a0))) then (some (shr .u64 t160 (IntKind.u64.wrap (wrap64 (64 - a0))), 0)) else (none))) else (if a0 = 32 then ((bits_ReverseBytes64.f a1).bind fun t161 => (if 0 ≤ (IntKind.u64.wrap (wrap64 (64 - a0))) then (some (shr .u64 t161 (IntKind.u64.wrap (wrap64 (64 - a0))), 0)) else (none))) else (if a0 = 64 then ((bits_ReverseBytes64.f a1).bind fun t162 => (if 0 ≤ (IntKind.u64.wrap (wrap64 (64 - a0))) then (some (shr .u64 t162 (IntKind.u64.wrap (wrap64 (64 - a0))), 0)) else (none))) else (some (0, 1))))
set_option maxHeartbeats 8000000 in
set_option maxRecDepth 100000 in
theorem word_Swap.calls (a0 : Int) (a1 : Int) (r1 : Int) (r2 : Int) (w : World) (h : word_Swap.f a0 a1 = some (r1, r2)) :
  Calls Try.prog 18 #[.int .i64 a0, .int .u64 a1] w fun e w' => e = .returned (.tuple #[.int .u64 r1, .int .i64 r2]) ∧ Drawn0 w w' := by
 have H : (if a0 = 16 then ((bits_ReverseBytes64.f a1).bind fun t160 => (if 0 ≤ (IntKind.u64.wrap (wrap64 (64 - a0))) then (some (shr .u64 t160 (IntKind.u64.wrap (wrap64 (64 - a0))), 0)) else (none))) else (if a0 = 32 then ((bits_ReverseBytes64.f a1).bind fun t161 => (if 0 ≤ (IntKind.u64.wrap (wrap64 (64 - a0))) then (some (shr .u64 t161 (IntKind.u64.wrap (wrap64 (64 - a0))), 0)) else (none))) else (if a0 = 64 then ((bits_ReverseBytes64.f a1).bind fun t162 => (if 0 ≤ (IntKind.u64.wrap (wrap64 (64 - a0))) then (some (shr .u64 t162 (IntKind.u64.wrap (wrap64 (64 - a0))), 0)) else (none))) else (some (0, 1))))) = some (r1, r2) := h
 clear h
 by_cases c3 : a0 = 16
 ·rw [if_pos c3] at H
  have c3b0 : (a0 == 16) = true := beq_iff_eq.mpr c3
  have c3b1 : (a0 != 16) = false := bne_eq_false_iff_eq.mpr c3
  clear c3
  replace H := Option.bind_eq_some_iff.mp H; obtain ⟨t160, A40, H⟩ := H; try dsimp only at H
  have A4 := Aside0.mk A40
  clear A40
  obtain ⟨ji5, hji5⟩ : ∃ j_ : Int, (IntKind.u64.wrap (wrap64 (64 - a0))) = j_ := ⟨_, rfl⟩
  replace H : (if 0 ≤ (ji5) then (some (shr .u64 t160 (ji5), 0)) else (none)) = some (r1, r2) := by first | (rw [hji5] at H; exact H) | (simp only [hji5] at H ⊢; exact H)
  (try rw [hji5] at A4)
  by_cases c6 : 0 ≤ (ji5)
  ·rw [if_pos c6] at H
   have c6b0 := eq_true c6
   have c6b1 : decide (0 ≤ (ji5)) = true := decide_eq_true c6
   clear c6
   obtain ⟨ji7, hji7⟩ : ∃ j_ : Int, (shr .u64 t160 (ji5)) = j_ := ⟨_, rfl⟩
   replace H : (some (ji7, 0)) = some (r1, r2) := by first | (rw [hji7] at H; exact H) | (simp only [hji7] at H ⊢; exact H)
   (try rw [hji7] at A4)
   have hji7_ : (t160 / 2 ^ min (ji5).toNat 64) = ji7 := hji7
   have hji7z : (ji5) ≤ 64 → (t160 / 2 ^ (ji5).toNat) = ji7 := shr_small hji7
   simp only [Option.some.injEq, Prod.mk.injEq] at H
   obtain ⟨rfl, rfl⟩ := H
   go_enter Try.func18, Try.ntmps18
   go_wp2_with (first | ((with_reducible refine gate_callee (f := 34) rfl ?_); refine sh_call (some 12) Try.func34 #[.int .u64 a1] ?_; (with_reducible refine (bits_ReverseBytes64.calls a1 t160 _ A4.out).mono ?_); rintro e w' ⟨rfl, ⟨nd, rfl⟩⟩; refine ⟨_, rfl, ?_⟩))
   go_ret2
   exact ⟨by first | rfl | (simp; done) | (simp only [← hji5, ← hji7] <;> (first | rfl | simp)) | (simp [*]; done), by repeat (first | exact Drawn0.refl _ | apply Drawn0.step)⟩
  ·rw [if_neg c6] at H
   exact absurd H (by simp)
 ·rw [if_neg c3] at H
  have c3b0 : (a0 == 16) = false := beq_eq_false_iff_ne.mpr c3
  have c3b1 : (a0 != 16) = true := bne_iff_ne.mpr c3
  by_cases c8 : a0 = 32
  ·rw [if_pos c8] at H
   have c8b0 : (a0 == 32) = true := beq_iff_eq.mpr c8
   have c8b1 : (a0 != 32) = false := bne_eq_false_iff_eq.mpr c8
   clear c8
   replace H := Option.bind_eq_some_iff.mp H; obtain ⟨t161, A90, H⟩ := H; try dsimp only at H
   have A9 := Aside0.mk A90
   clear A90
   obtain ⟨ji10, hji10⟩ : ∃ j_ : Int, (IntKind.u64.wrap (wrap64 (64 - a0))) = j_ := ⟨_, rfl⟩
   replace H : (if 0 ≤ (ji10) then (some (shr .u64 t161 (ji10), 0)) else (none)) = some (r1, r2) := by first | (rw [hji10] at H; exact H) | (simp only [hji10] at H ⊢; exact H)
   (try rw [hji10] at A9)
   by_cases c11 : 0 ≤ (ji10)
   ·rw [if_pos c11] at H
    have c11b0 := eq_true c11
    have c11b1 : decide (0 ≤ (ji10)) = true := decide_eq_true c11
    clear c11
    obtain ⟨ji12, hji12⟩ : ∃ j_ : Int, (shr .u64 t161 (ji10)) = j_ := ⟨_, rfl⟩
    replace H : (some (ji12, 0)) = some (r1, r2) := by first | (rw [hji12] at H; exact H) | (simp only [hji12] at H ⊢; exact H)
    (try rw [hji12] at A9)
    have hji12_ : (t161 / 2 ^ min (ji10).toNat 64) = ji12 := hji12
    have hji12z : (ji10) ≤ 64 → (t161 / 2 ^ (ji10).toNat) = ji12 := shr_small hji12
    simp only [Option.some.injEq, Prod.mk.injEq] at H
    obtain ⟨rfl, rfl⟩ := H
    go_enter Try.func18, Try.ntmps18
    go_wp2_with (first | ((with_reducible refine gate_callee (f := 34) rfl ?_); refine sh_call (some 12) Try.func34 #[.int .u64 a1] ?_; (with_reducible refine (bits_ReverseBytes64.calls a1 t161 _ A9.out).mono ?_); rintro e w' ⟨rfl, ⟨nd, rfl⟩⟩; refine ⟨_, rfl, ?_⟩))
    go_ret2
    exact ⟨by first | rfl | (simp; done) | (simp only [← hji10, ← hji12] <;> (first | rfl | simp)) | (simp [*]; done), by repeat (first | exact Drawn0.refl _ | apply Drawn0.step)⟩
   ·rw [if_neg c11] at H
    exact absurd H (by simp)
  ·rw [if_neg c8] at H
   have c8b0 : (a0 == 32) = false := beq_eq_false_iff_ne.mpr c8
   have c8b1 : (a0 != 32) = true := bne_iff_ne.mpr c8
   by_cases c13 : a0 = 64
   ·rw [if_pos c13] at H
    have c13b0 : (a0 == 64) = true := beq_iff_eq.mpr c13
    have c13b1 : (a0 != 64) = false := bne_eq_false_iff_eq.mpr c13
    clear c13
    replace H := Option.bind_eq_some_iff.mp H; obtain ⟨t162, A140, H⟩ := H; try dsimp only at H
    have A14 := Aside0.mk A140
    clear A140
    obtain ⟨ji15, hji15⟩ : ∃ j_ : Int, (IntKind.u64.wrap (wrap64 (64 - a0))) = j_ := ⟨_, rfl⟩
    replace H : (if 0 ≤ (ji15) then (some (shr .u64 t162 (ji15), 0)) else (none)) = some (r1, r2) := by first | (rw [hji15] at H; exact H) | (simp only [hji15] at H ⊢; exact H)
    (try rw [hji15] at A14)
    by_cases c16 : 0 ≤ (ji15)
    ·rw [if_pos c16] at H
     have c16b0 := eq_true c16
     have c16b1 : decide (0 ≤ (ji15)) = true := decide_eq_true c16
     clear c16
     obtain ⟨ji17, hji17⟩ : ∃ j_ : Int, (shr .u64 t162 (ji15)) = j_ := ⟨_, rfl⟩
     replace H : (some (ji17, 0)) = some (r1, r2) := by first | (rw [hji17] at H; exact H) | (simp only [hji17] at H ⊢; exact H)
     (try rw [hji17] at A14)
     have hji17_ : (t162 / 2 ^ min (ji15).toNat 64) = ji17 := hji17
     have hji17z : (ji15) ≤ 64 → (t162 / 2 ^ (ji15).toNat) = ji17 := shr_small hji17
     simp only [Option.some.injEq, Prod.mk.injEq] at H
     obtain ⟨rfl, rfl⟩ := H
     go_enter Try.func18, Try.ntmps18
     go_wp2_with (first | ((with_reducible refine gate_callee (f := 34) rfl ?_); refine sh_call (some 12) Try.func34 #[.int .u64 a1] ?_; (with_reducible refine (bits_ReverseBytes64.calls a1 t162 _ A14.out).mono ?_); rintro e w' ⟨rfl, ⟨nd, rfl⟩⟩; refine ⟨_, rfl, ?_⟩))
     go_ret2
     exact ⟨by first | rfl | (simp; done) | (simp only [← hji15, ← hji17] <;> (first | rfl | simp)) | (simp [*]; done), by repeat (first | exact Drawn0.refl _ | apply Drawn0.step)⟩
    ·rw [if_neg c16] at H
     exact absurd H (by simp)
   ·rw [if_neg c13] at H
    have c13b0 : (a0 == 64) = false := beq_eq_false_iff_ne.mpr c13
    have c13b1 : (a0 != 64) = true := bne_iff_ne.mpr c13
    simp only [Option.some.injEq, Prod.mk.injEq] at H
    obtain ⟨rfl, rfl⟩ := H
    go_enter Try.func18, Try.ntmps18
    go_wp2
    go_ret2
    exact ⟨by first | rfl | (simp; done) | (simp [*]; done), by repeat (first | exact Drawn0.refl _ | apply Drawn0.step)⟩

/-! ### word_Ext: function 20 -/
def word_Ext.f (a0 : Int) : Option (Int) := some (IntKind.u64.wrap (wrap64 (a0)))
set_option maxHeartbeats 8000000 in
set_option maxRecDepth 100000 in
theorem word_Ext.calls (a0 : Int) (r : Int) (w : World) (h : word_Ext.f a0 = some r) :
  Calls Try.prog 20 #[.int .i32 a0] w fun e w' => e = .returned (.int .u64 r) ∧ Drawn0 w w' := by
 have H : (some (IntKind.u64.wrap (wrap64 (a0)))) = some r := h
 clear h
 obtain rfl := Option.some.inj H
 go_enter Try.func20, Try.ntmps20
 go_wp2
 go_ret
 exact ⟨by first | rfl | (simp; done) | (simp [*]; done), by repeat (first | exact Drawn0.refl _ | apply Drawn0.step)⟩

/-! ### stockadelaw01_awake: function 15 -/
def stockadelaw01_awake.f (k : Nat)  : Option (Bool) := (word_Alu.f 9 false 4294967303 0).bind fun bt163 => ((word_Alu.f 12 true 9223372036854775808 63).bind fun bt165 => ((word_Cond.f k 6 true 1 18446744073709551615).bind fun bt167 => ((word_Swap.f 16 4660).bind fun bt169 => ((word_Alu.f 13 true 1 1).bind fun bt171 => (if bt163.1 = 7 then (if bt163.2 = 0 then (if bt165.1 = 18446744073709551615 then (if bt165.2 = 0 then (if bt167.1 = true then (if bt167.2 = 0 then (if bt169.1 = 13330 then (if bt169.2 = 0 then (if bt171.2 = 20 then ((word_Ext.f (-1)).bind fun t173 => (some (t173 == 18446744073709551615))) else (some false)) else (some false)) else (some false)) else (some false)) else (some false)) else (some false)) else (some false)) else (some false)) else (some false))))))
theorem stockadelaw01_awake.mono : ∀ k, LeO (stockadelaw01_awake.f k ) (stockadelaw01_awake.f (k + 1) ) := by
 intro  k
 unfold stockadelaw01_awake.f
 repeat' first
   | (with_reducible exact word_Cond.mono _ _ _ _ _)
   | (with_reducible exact LeO.refl _)
   | (with_reducible exact LeO.none _)
   | (with_reducible refine LeO.ite ?_ ?_)
   | (with_reducible refine LeO.bind ?_ (fun _ => ?_))
   | exact word_Cond.mono _ _ _ _ _
   | exact LeO.none _
   | refine LeO.ite ?_ ?_
   | refine LeO.bind ?_ (fun _ => ?_)
set_option maxHeartbeats 8000000 in
set_option maxRecDepth 100000 in
theorem stockadelaw01_awake.calls (k : Nat)  (r : Bool) (w : World) (h : stockadelaw01_awake.f k  = some r) :
  Calls Try.prog 15 #[] w fun e w' => e = .returned (.bool r) ∧ Drawn0 w w' := by
 have H : ((word_Alu.f 9 false 4294967303 0).bind fun bt163 => ((word_Alu.f 12 true 9223372036854775808 63).bind fun bt165 => ((word_Cond.f k 6 true 1 18446744073709551615).bind fun bt167 => ((word_Swap.f 16 4660).bind fun bt169 => ((word_Alu.f 13 true 1 1).bind fun bt171 => (if bt163.1 = 7 then (if bt163.2 = 0 then (if bt165.1 = 18446744073709551615 then (if bt165.2 = 0 then (if bt167.1 = true then (if bt167.2 = 0 then (if bt169.1 = 13330 then (if bt169.2 = 0 then (if bt171.2 = 20 then ((word_Ext.f (-1)).bind fun t173 => (some (t173 == 18446744073709551615))) else (some false)) else (some false)) else (some false)) else (some false)) else (some false)) else (some false)) else (some false)) else (some false)) else (some false))))))) = some r := h
 clear h
 replace H := Option.bind_eq_some_iff.mp H; obtain ⟨⟨t163, t164⟩, A10, H⟩ := H; try dsimp only at H
 have A1 := Aside0.mk A10
 clear A10
 replace H := Option.bind_eq_some_iff.mp H; obtain ⟨⟨t165, t166⟩, A20, H⟩ := H; try dsimp only at H
 have A2 := Aside0.mk A20
 clear A20
 replace H := Option.bind_eq_some_iff.mp H; obtain ⟨⟨t167, t168⟩, A30, H⟩ := H; try dsimp only at H
 have A3 := Aside0.mk A30
 clear A30
 replace H := Option.bind_eq_some_iff.mp H; obtain ⟨⟨t169, t170⟩, A40, H⟩ := H; try dsimp only at H
 have A4 := Aside0.mk A40
 clear A40
 replace H := Option.bind_eq_some_iff.mp H; obtain ⟨⟨t171, t172⟩, A50, H⟩ := H; try dsimp only at H
 have A5 := Aside0.mk A50
 clear A50
 by_cases c6 : t163 = 7
 ·rw [if_pos c6] at H
  have c6b0 : (t163 == 7) = true := beq_iff_eq.mpr c6
  have c6b1 : (t163 != 7) = false := bne_eq_false_iff_eq.mpr c6
  clear c6
  by_cases c7 : t164 = 0
  ·rw [if_pos c7] at H
   have c7b0 : (t164 == 0) = true := beq_iff_eq.mpr c7
   have c7b1 : (t164 != 0) = false := bne_eq_false_iff_eq.mpr c7
   clear c7
   by_cases c8 : t165 = 18446744073709551615
   ·rw [if_pos c8] at H
    have c8b0 : (t165 == 18446744073709551615) = true := beq_iff_eq.mpr c8
    have c8b1 : (t165 != 18446744073709551615) = false := bne_eq_false_iff_eq.mpr c8
    clear c8
    by_cases c9 : t166 = 0
    ·rw [if_pos c9] at H
     have c9b0 : (t166 == 0) = true := beq_iff_eq.mpr c9
     have c9b1 : (t166 != 0) = false := bne_eq_false_iff_eq.mpr c9
     clear c9
     by_cases c10 : t167 = true
     ·subst c10
      replace H := sh_t H
      by_cases c11 : t168 = 0
      ·rw [if_pos c11] at H
       have c11b0 : (t168 == 0) = true := beq_iff_eq.mpr c11
       have c11b1 : (t168 != 0) = false := bne_eq_false_iff_eq.mpr c11
       clear c11
       by_cases c12 : t169 = 13330
       ·rw [if_pos c12] at H
        have c12b0 : (t169 == 13330) = true := beq_iff_eq.mpr c12
        have c12b1 : (t169 != 13330) = false := bne_eq_false_iff_eq.mpr c12
        clear c12
        by_cases c13 : t170 = 0
        ·rw [if_pos c13] at H
         have c13b0 : (t170 == 0) = true := beq_iff_eq.mpr c13
         have c13b1 : (t170 != 0) = false := bne_eq_false_iff_eq.mpr c13
         clear c13
         by_cases c14 : t172 = 20
         ·rw [if_pos c14] at H
          have c14b0 : (t172 == 20) = true := beq_iff_eq.mpr c14
          have c14b1 : (t172 != 20) = false := bne_eq_false_iff_eq.mpr c14
          clear c14
          replace H := Option.bind_eq_some_iff.mp H; obtain ⟨t173, A150, H⟩ := H; try dsimp only at H
          have A15 := Aside0.mk A150
          clear A150
          obtain rfl := Option.some.inj H
          go_enter Try.func15, Try.ntmps15
          go_wp2_with (first | ((with_reducible refine gate_callee (f := 13) rfl ?_); refine sh_call (some 12) Try.func13 #[.int .i64 9, .bool false, .int .u64 4294967303, .int .u64 0] ?_; (with_reducible refine (word_Alu.calls 9 false 4294967303 0 t163 t164 _ A1.out).mono ?_); rintro e w' ⟨rfl, ⟨nd, rfl⟩⟩; refine ⟨_, rfl, ?_⟩) | ((with_reducible refine gate_callee (f := 13) rfl ?_); refine sh_call (some 16) Try.func13 #[.int .i64 12, .bool true, .int .u64 9223372036854775808, .int .u64 63] ?_; (with_reducible refine (word_Alu.calls 12 true 9223372036854775808 63 t165 t166 _ A2.out).mono ?_); rintro e w' ⟨rfl, ⟨nd, rfl⟩⟩; refine ⟨_, rfl, ?_⟩) | ((with_reducible refine gate_callee (f := 16) rfl ?_); refine sh_call (some 20) Try.func16 #[.int .i64 6, .bool true, .int .u64 1, .int .u64 18446744073709551615] ?_; (with_reducible refine (word_Cond.calls k 6 true 1 18446744073709551615 true t168 _ A3.out).mono ?_); rintro e w' ⟨rfl, ⟨nd, rfl⟩⟩; refine ⟨_, rfl, ?_⟩) | ((with_reducible refine gate_callee (f := 18) rfl ?_); refine sh_call (some 24) Try.func18 #[.int .i64 16, .int .u64 4660] ?_; (with_reducible refine (word_Swap.calls 16 4660 t169 t170 _ A4.out).mono ?_); rintro e w' ⟨rfl, ⟨nd, rfl⟩⟩; refine ⟨_, rfl, ?_⟩) | ((with_reducible refine gate_callee (f := 13) rfl ?_); refine sh_call (some 28) Try.func13 #[.int .i64 13, .bool true, .int .u64 1, .int .u64 1] ?_; (with_reducible refine (word_Alu.calls 13 true 1 1 t171 t172 _ A5.out).mono ?_); rintro e w' ⟨rfl, ⟨nd, rfl⟩⟩; refine ⟨_, rfl, ?_⟩) | (go_at_call 20; (with_reducible refine (word_Ext.calls (-1) t173 _ A15.out).mono ?_); rintro e w' ⟨rfl, ⟨nd, rfl⟩⟩))
          go_ret
          exact ⟨by first | rfl | (simp; done) | (simp [*]; done), by repeat (first | exact Drawn0.refl _ | apply Drawn0.step)⟩
         ·rw [if_neg c14] at H
          have c14b0 : (t172 == 20) = false := beq_eq_false_iff_ne.mpr c14
          have c14b1 : (t172 != 20) = true := bne_iff_ne.mpr c14
          obtain rfl := Option.some.inj H
          go_enter Try.func15, Try.ntmps15
          go_wp2_with (first | ((with_reducible refine gate_callee (f := 13) rfl ?_); refine sh_call (some 12) Try.func13 #[.int .i64 9, .bool false, .int .u64 4294967303, .int .u64 0] ?_; (with_reducible refine (word_Alu.calls 9 false 4294967303 0 t163 t164 _ A1.out).mono ?_); rintro e w' ⟨rfl, ⟨nd, rfl⟩⟩; refine ⟨_, rfl, ?_⟩) | ((with_reducible refine gate_callee (f := 13) rfl ?_); refine sh_call (some 16) Try.func13 #[.int .i64 12, .bool true, .int .u64 9223372036854775808, .int .u64 63] ?_; (with_reducible refine (word_Alu.calls 12 true 9223372036854775808 63 t165 t166 _ A2.out).mono ?_); rintro e w' ⟨rfl, ⟨nd, rfl⟩⟩; refine ⟨_, rfl, ?_⟩) | ((with_reducible refine gate_callee (f := 16) rfl ?_); refine sh_call (some 20) Try.func16 #[.int .i64 6, .bool true, .int .u64 1, .int .u64 18446744073709551615] ?_; (with_reducible refine (word_Cond.calls k 6 true 1 18446744073709551615 true t168 _ A3.out).mono ?_); rintro e w' ⟨rfl, ⟨nd, rfl⟩⟩; refine ⟨_, rfl, ?_⟩) | ((with_reducible refine gate_callee (f := 18) rfl ?_); refine sh_call (some 24) Try.func18 #[.int .i64 16, .int .u64 4660] ?_; (with_reducible refine (word_Swap.calls 16 4660 t169 t170 _ A4.out).mono ?_); rintro e w' ⟨rfl, ⟨nd, rfl⟩⟩; refine ⟨_, rfl, ?_⟩) | ((with_reducible refine gate_callee (f := 13) rfl ?_); refine sh_call (some 28) Try.func13 #[.int .i64 13, .bool true, .int .u64 1, .int .u64 1] ?_; (with_reducible refine (word_Alu.calls 13 true 1 1 t171 t172 _ A5.out).mono ?_); rintro e w' ⟨rfl, ⟨nd, rfl⟩⟩; refine ⟨_, rfl, ?_⟩))
          go_ret
          exact ⟨by first | rfl | (simp; done) | (simp [*]; done), by repeat (first | exact Drawn0.refl _ | apply Drawn0.step)⟩
        ·rw [if_neg c13] at H
         have c13b0 : (t170 == 0) = false := beq_eq_false_iff_ne.mpr c13
         have c13b1 : (t170 != 0) = true := bne_iff_ne.mpr c13
         obtain rfl := Option.some.inj H
         go_enter Try.func15, Try.ntmps15
         go_wp2_with (first | ((with_reducible refine gate_callee (f := 13) rfl ?_); refine sh_call (some 12) Try.func13 #[.int .i64 9, .bool false, .int .u64 4294967303, .int .u64 0] ?_; (with_reducible refine (word_Alu.calls 9 false 4294967303 0 t163 t164 _ A1.out).mono ?_); rintro e w' ⟨rfl, ⟨nd, rfl⟩⟩; refine ⟨_, rfl, ?_⟩) | ((with_reducible refine gate_callee (f := 13) rfl ?_); refine sh_call (some 16) Try.func13 #[.int .i64 12, .bool true, .int .u64 9223372036854775808, .int .u64 63] ?_; (with_reducible refine (word_Alu.calls 12 true 9223372036854775808 63 t165 t166 _ A2.out).mono ?_); rintro e w' ⟨rfl, ⟨nd, rfl⟩⟩; refine ⟨_, rfl, ?_⟩) | ((with_reducible refine gate_callee (f := 16) rfl ?_); refine sh_call (some 20) Try.func16 #[.int .i64 6, .bool true, .int .u64 1, .int .u64 18446744073709551615] ?_; (with_reducible refine (word_Cond.calls k 6 true 1 18446744073709551615 true t168 _ A3.out).mono ?_); rintro e w' ⟨rfl, ⟨nd, rfl⟩⟩; refine ⟨_, rfl, ?_⟩) | ((with_reducible refine gate_callee (f := 18) rfl ?_); refine sh_call (some 24) Try.func18 #[.int .i64 16, .int .u64 4660] ?_; (with_reducible refine (word_Swap.calls 16 4660 t169 t170 _ A4.out).mono ?_); rintro e w' ⟨rfl, ⟨nd, rfl⟩⟩; refine ⟨_, rfl, ?_⟩) | ((with_reducible refine gate_callee (f := 13) rfl ?_); refine sh_call (some 28) Try.func13 #[.int .i64 13, .bool true, .int .u64 1, .int .u64 1] ?_; (with_reducible refine (word_Alu.calls 13 true 1 1 t171 t172 _ A5.out).mono ?_); rintro e w' ⟨rfl, ⟨nd, rfl⟩⟩; refine ⟨_, rfl, ?_⟩))
         go_ret
         exact ⟨by first | rfl | (simp; done) | (simp [*]; done), by repeat (first | exact Drawn0.refl _ | apply Drawn0.step)⟩
       ·rw [if_neg c12] at H
        have c12b0 : (t169 == 13330) = false := beq_eq_false_iff_ne.mpr c12
        have c12b1 : (t169 != 13330) = true := bne_iff_ne.mpr c12
        obtain rfl := Option.some.inj H
        go_enter Try.func15, Try.ntmps15
        go_wp2_with (first | ((with_reducible refine gate_callee (f := 13) rfl ?_); refine sh_call (some 12) Try.func13 #[.int .i64 9, .bool false, .int .u64 4294967303, .int .u64 0] ?_; (with_reducible refine (word_Alu.calls 9 false 4294967303 0 t163 t164 _ A1.out).mono ?_); rintro e w' ⟨rfl, ⟨nd, rfl⟩⟩; refine ⟨_, rfl, ?_⟩) | ((with_reducible refine gate_callee (f := 13) rfl ?_); refine sh_call (some 16) Try.func13 #[.int .i64 12, .bool true, .int .u64 9223372036854775808, .int .u64 63] ?_; (with_reducible refine (word_Alu.calls 12 true 9223372036854775808 63 t165 t166 _ A2.out).mono ?_); rintro e w' ⟨rfl, ⟨nd, rfl⟩⟩; refine ⟨_, rfl, ?_⟩) | ((with_reducible refine gate_callee (f := 16) rfl ?_); refine sh_call (some 20) Try.func16 #[.int .i64 6, .bool true, .int .u64 1, .int .u64 18446744073709551615] ?_; (with_reducible refine (word_Cond.calls k 6 true 1 18446744073709551615 true t168 _ A3.out).mono ?_); rintro e w' ⟨rfl, ⟨nd, rfl⟩⟩; refine ⟨_, rfl, ?_⟩) | ((with_reducible refine gate_callee (f := 18) rfl ?_); refine sh_call (some 24) Try.func18 #[.int .i64 16, .int .u64 4660] ?_; (with_reducible refine (word_Swap.calls 16 4660 t169 t170 _ A4.out).mono ?_); rintro e w' ⟨rfl, ⟨nd, rfl⟩⟩; refine ⟨_, rfl, ?_⟩) | ((with_reducible refine gate_callee (f := 13) rfl ?_); refine sh_call (some 28) Try.func13 #[.int .i64 13, .bool true, .int .u64 1, .int .u64 1] ?_; (with_reducible refine (word_Alu.calls 13 true 1 1 t171 t172 _ A5.out).mono ?_); rintro e w' ⟨rfl, ⟨nd, rfl⟩⟩; refine ⟨_, rfl, ?_⟩))
        go_ret
        exact ⟨by first | rfl | (simp; done) | (simp [*]; done), by repeat (first | exact Drawn0.refl _ | apply Drawn0.step)⟩
      ·rw [if_neg c11] at H
       have c11b0 : (t168 == 0) = false := beq_eq_false_iff_ne.mpr c11
       have c11b1 : (t168 != 0) = true := bne_iff_ne.mpr c11
       obtain rfl := Option.some.inj H
       go_enter Try.func15, Try.ntmps15
       go_wp2_with (first | ((with_reducible refine gate_callee (f := 13) rfl ?_); refine sh_call (some 12) Try.func13 #[.int .i64 9, .bool false, .int .u64 4294967303, .int .u64 0] ?_; (with_reducible refine (word_Alu.calls 9 false 4294967303 0 t163 t164 _ A1.out).mono ?_); rintro e w' ⟨rfl, ⟨nd, rfl⟩⟩; refine ⟨_, rfl, ?_⟩) | ((with_reducible refine gate_callee (f := 13) rfl ?_); refine sh_call (some 16) Try.func13 #[.int .i64 12, .bool true, .int .u64 9223372036854775808, .int .u64 63] ?_; (with_reducible refine (word_Alu.calls 12 true 9223372036854775808 63 t165 t166 _ A2.out).mono ?_); rintro e w' ⟨rfl, ⟨nd, rfl⟩⟩; refine ⟨_, rfl, ?_⟩) | ((with_reducible refine gate_callee (f := 16) rfl ?_); refine sh_call (some 20) Try.func16 #[.int .i64 6, .bool true, .int .u64 1, .int .u64 18446744073709551615] ?_; (with_reducible refine (word_Cond.calls k 6 true 1 18446744073709551615 true t168 _ A3.out).mono ?_); rintro e w' ⟨rfl, ⟨nd, rfl⟩⟩; refine ⟨_, rfl, ?_⟩) | ((with_reducible refine gate_callee (f := 18) rfl ?_); refine sh_call (some 24) Try.func18 #[.int .i64 16, .int .u64 4660] ?_; (with_reducible refine (word_Swap.calls 16 4660 t169 t170 _ A4.out).mono ?_); rintro e w' ⟨rfl, ⟨nd, rfl⟩⟩; refine ⟨_, rfl, ?_⟩) | ((with_reducible refine gate_callee (f := 13) rfl ?_); refine sh_call (some 28) Try.func13 #[.int .i64 13, .bool true, .int .u64 1, .int .u64 1] ?_; (with_reducible refine (word_Alu.calls 13 true 1 1 t171 t172 _ A5.out).mono ?_); rintro e w' ⟨rfl, ⟨nd, rfl⟩⟩; refine ⟨_, rfl, ?_⟩))
       go_ret
       exact ⟨by first | rfl | (simp; done) | (simp [*]; done), by repeat (first | exact Drawn0.refl _ | apply Drawn0.step)⟩
     ·replace c10 := Bool.eq_false_iff.mpr c10
      subst c10
      replace H := sh_f H
      obtain rfl := Option.some.inj H
      go_enter Try.func15, Try.ntmps15
      go_wp2_with (first | ((with_reducible refine gate_callee (f := 13) rfl ?_); refine sh_call (some 12) Try.func13 #[.int .i64 9, .bool false, .int .u64 4294967303, .int .u64 0] ?_; (with_reducible refine (word_Alu.calls 9 false 4294967303 0 t163 t164 _ A1.out).mono ?_); rintro e w' ⟨rfl, ⟨nd, rfl⟩⟩; refine ⟨_, rfl, ?_⟩) | ((with_reducible refine gate_callee (f := 13) rfl ?_); refine sh_call (some 16) Try.func13 #[.int .i64 12, .bool true, .int .u64 9223372036854775808, .int .u64 63] ?_; (with_reducible refine (word_Alu.calls 12 true 9223372036854775808 63 t165 t166 _ A2.out).mono ?_); rintro e w' ⟨rfl, ⟨nd, rfl⟩⟩; refine ⟨_, rfl, ?_⟩) | ((with_reducible refine gate_callee (f := 16) rfl ?_); refine sh_call (some 20) Try.func16 #[.int .i64 6, .bool true, .int .u64 1, .int .u64 18446744073709551615] ?_; (with_reducible refine (word_Cond.calls k 6 true 1 18446744073709551615 false t168 _ A3.out).mono ?_); rintro e w' ⟨rfl, ⟨nd, rfl⟩⟩; refine ⟨_, rfl, ?_⟩) | ((with_reducible refine gate_callee (f := 18) rfl ?_); refine sh_call (some 24) Try.func18 #[.int .i64 16, .int .u64 4660] ?_; (with_reducible refine (word_Swap.calls 16 4660 t169 t170 _ A4.out).mono ?_); rintro e w' ⟨rfl, ⟨nd, rfl⟩⟩; refine ⟨_, rfl, ?_⟩) | ((with_reducible refine gate_callee (f := 13) rfl ?_); refine sh_call (some 28) Try.func13 #[.int .i64 13, .bool true, .int .u64 1, .int .u64 1] ?_; (with_reducible refine (word_Alu.calls 13 true 1 1 t171 t172 _ A5.out).mono ?_); rintro e w' ⟨rfl, ⟨nd, rfl⟩⟩; refine ⟨_, rfl, ?_⟩))
      go_ret
      exact ⟨by first | rfl | (simp; done) | (simp [*]; done), by repeat (first | exact Drawn0.refl _ | apply Drawn0.step)⟩
    ·rw [if_neg c9] at H
     have c9b0 : (t166 == 0) = false := beq_eq_false_iff_ne.mpr c9
     have c9b1 : (t166 != 0) = true := bne_iff_ne.mpr c9
     obtain rfl := Option.some.inj H
     go_enter Try.func15, Try.ntmps15
     go_wp2_with (first | ((with_reducible refine gate_callee (f := 13) rfl ?_); refine sh_call (some 12) Try.func13 #[.int .i64 9, .bool false, .int .u64 4294967303, .int .u64 0] ?_; (with_reducible refine (word_Alu.calls 9 false 4294967303 0 t163 t164 _ A1.out).mono ?_); rintro e w' ⟨rfl, ⟨nd, rfl⟩⟩; refine ⟨_, rfl, ?_⟩) | ((with_reducible refine gate_callee (f := 13) rfl ?_); refine sh_call (some 16) Try.func13 #[.int .i64 12, .bool true, .int .u64 9223372036854775808, .int .u64 63] ?_; (with_reducible refine (word_Alu.calls 12 true 9223372036854775808 63 t165 t166 _ A2.out).mono ?_); rintro e w' ⟨rfl, ⟨nd, rfl⟩⟩; refine ⟨_, rfl, ?_⟩) | ((with_reducible refine gate_callee (f := 16) rfl ?_); refine sh_call (some 20) Try.func16 #[.int .i64 6, .bool true, .int .u64 1, .int .u64 18446744073709551615] ?_; (with_reducible refine (word_Cond.calls k 6 true 1 18446744073709551615 t167 t168 _ A3.out).mono ?_); rintro e w' ⟨rfl, ⟨nd, rfl⟩⟩; refine ⟨_, rfl, ?_⟩) | ((with_reducible refine gate_callee (f := 18) rfl ?_); refine sh_call (some 24) Try.func18 #[.int .i64 16, .int .u64 4660] ?_; (with_reducible refine (word_Swap.calls 16 4660 t169 t170 _ A4.out).mono ?_); rintro e w' ⟨rfl, ⟨nd, rfl⟩⟩; refine ⟨_, rfl, ?_⟩) | ((with_reducible refine gate_callee (f := 13) rfl ?_); refine sh_call (some 28) Try.func13 #[.int .i64 13, .bool true, .int .u64 1, .int .u64 1] ?_; (with_reducible refine (word_Alu.calls 13 true 1 1 t171 t172 _ A5.out).mono ?_); rintro e w' ⟨rfl, ⟨nd, rfl⟩⟩; refine ⟨_, rfl, ?_⟩))
     go_ret
     exact ⟨by first | rfl | (simp; done) | (simp [*]; done), by repeat (first | exact Drawn0.refl _ | apply Drawn0.step)⟩
   ·rw [if_neg c8] at H
    have c8b0 : (t165 == 18446744073709551615) = false := beq_eq_false_iff_ne.mpr c8
    have c8b1 : (t165 != 18446744073709551615) = true := bne_iff_ne.mpr c8
    obtain rfl := Option.some.inj H
    go_enter Try.func15, Try.ntmps15
    go_wp2_with (first | ((with_reducible refine gate_callee (f := 13) rfl ?_); refine sh_call (some 12) Try.func13 #[.int .i64 9, .bool false, .int .u64 4294967303, .int .u64 0] ?_; (with_reducible refine (word_Alu.calls 9 false 4294967303 0 t163 t164 _ A1.out).mono ?_); rintro e w' ⟨rfl, ⟨nd, rfl⟩⟩; refine ⟨_, rfl, ?_⟩) | ((with_reducible refine gate_callee (f := 13) rfl ?_); refine sh_call (some 16) Try.func13 #[.int .i64 12, .bool true, .int .u64 9223372036854775808, .int .u64 63] ?_; (with_reducible refine (word_Alu.calls 12 true 9223372036854775808 63 t165 t166 _ A2.out).mono ?_); rintro e w' ⟨rfl, ⟨nd, rfl⟩⟩; refine ⟨_, rfl, ?_⟩) | ((with_reducible refine gate_callee (f := 16) rfl ?_); refine sh_call (some 20) Try.func16 #[.int .i64 6, .bool true, .int .u64 1, .int .u64 18446744073709551615] ?_; (with_reducible refine (word_Cond.calls k 6 true 1 18446744073709551615 t167 t168 _ A3.out).mono ?_); rintro e w' ⟨rfl, ⟨nd, rfl⟩⟩; refine ⟨_, rfl, ?_⟩) | ((with_reducible refine gate_callee (f := 18) rfl ?_); refine sh_call (some 24) Try.func18 #[.int .i64 16, .int .u64 4660] ?_; (with_reducible refine (word_Swap.calls 16 4660 t169 t170 _ A4.out).mono ?_); rintro e w' ⟨rfl, ⟨nd, rfl⟩⟩; refine ⟨_, rfl, ?_⟩) | ((with_reducible refine gate_callee (f := 13) rfl ?_); refine sh_call (some 28) Try.func13 #[.int .i64 13, .bool true, .int .u64 1, .int .u64 1] ?_; (with_reducible refine (word_Alu.calls 13 true 1 1 t171 t172 _ A5.out).mono ?_); rintro e w' ⟨rfl, ⟨nd, rfl⟩⟩; refine ⟨_, rfl, ?_⟩))
    go_ret
    exact ⟨by first | rfl | (simp; done) | (simp [*]; done), by repeat (first | exact Drawn0.refl _ | apply Drawn0.step)⟩
  ·rw [if_neg c7] at H
   have c7b0 : (t164 == 0) = false := beq_eq_false_iff_ne.mpr c7
   have c7b1 : (t164 != 0) = true := bne_iff_ne.mpr c7
   obtain rfl := Option.some.inj H
   go_enter Try.func15, Try.ntmps15
   go_wp2_with (first | ((with_reducible refine gate_callee (f := 13) rfl ?_); refine sh_call (some 12) Try.func13 #[.int .i64 9, .bool false, .int .u64 4294967303, .int .u64 0] ?_; (with_reducible refine (word_Alu.calls 9 false 4294967303 0 t163 t164 _ A1.out).mono ?_); rintro e w' ⟨rfl, ⟨nd, rfl⟩⟩; refine ⟨_, rfl, ?_⟩) | ((with_reducible refine gate_callee (f := 13) rfl ?_); refine sh_call (some 16) Try.func13 #[.int .i64 12, .bool true, .int .u64 9223372036854775808, .int .u64 63] ?_; (with_reducible refine (word_Alu.calls 12 true 9223372036854775808 63 t165 t166 _ A2.out).mono ?_); rintro e w' ⟨rfl, ⟨nd, rfl⟩⟩; refine ⟨_, rfl, ?_⟩) | ((with_reducible refine gate_callee (f := 16) rfl ?_); refine sh_call (some 20) Try.func16 #[.int .i64 6, .bool true, .int .u64 1, .int .u64 18446744073709551615] ?_; (with_reducible refine (word_Cond.calls k 6 true 1 18446744073709551615 t167 t168 _ A3.out).mono ?_); rintro e w' ⟨rfl, ⟨nd, rfl⟩⟩; refine ⟨_, rfl, ?_⟩) | ((with_reducible refine gate_callee (f := 18) rfl ?_); refine sh_call (some 24) Try.func18 #[.int .i64 16, .int .u64 4660] ?_; (with_reducible refine (word_Swap.calls 16 4660 t169 t170 _ A4.out).mono ?_); rintro e w' ⟨rfl, ⟨nd, rfl⟩⟩; refine ⟨_, rfl, ?_⟩) | ((with_reducible refine gate_callee (f := 13) rfl ?_); refine sh_call (some 28) Try.func13 #[.int .i64 13, .bool true, .int .u64 1, .int .u64 1] ?_; (with_reducible refine (word_Alu.calls 13 true 1 1 t171 t172 _ A5.out).mono ?_); rintro e w' ⟨rfl, ⟨nd, rfl⟩⟩; refine ⟨_, rfl, ?_⟩))
   go_ret
   exact ⟨by first | rfl | (simp; done) | (simp [*]; done), by repeat (first | exact Drawn0.refl _ | apply Drawn0.step)⟩
 ·rw [if_neg c6] at H
  have c6b0 : (t163 == 7) = false := beq_eq_false_iff_ne.mpr c6
  have c6b1 : (t163 != 7) = true := bne_iff_ne.mpr c6
  obtain rfl := Option.some.inj H
  go_enter Try.func15, Try.ntmps15
  go_wp2_with (first | ((with_reducible refine gate_callee (f := 13) rfl ?_); refine sh_call (some 12) Try.func13 #[.int .i64 9, .bool false, .int .u64 4294967303, .int .u64 0] ?_; (with_reducible refine (word_Alu.calls 9 false 4294967303 0 t163 t164 _ A1.out).mono ?_); rintro e w' ⟨rfl, ⟨nd, rfl⟩⟩; refine ⟨_, rfl, ?_⟩) | ((with_reducible refine gate_callee (f := 13) rfl ?_); refine sh_call (some 16) Try.func13 #[.int .i64 12, .bool true, .int .u64 9223372036854775808, .int .u64 63] ?_; (with_reducible refine (word_Alu.calls 12 true 9223372036854775808 63 t165 t166 _ A2.out).mono ?_); rintro e w' ⟨rfl, ⟨nd, rfl⟩⟩; refine ⟨_, rfl, ?_⟩) | ((with_reducible refine gate_callee (f := 16) rfl ?_); refine sh_call (some 20) Try.func16 #[.int .i64 6, .bool true, .int .u64 1, .int .u64 18446744073709551615] ?_; (with_reducible refine (word_Cond.calls k 6 true 1 18446744073709551615 t167 t168 _ A3.out).mono ?_); rintro e w' ⟨rfl, ⟨nd, rfl⟩⟩; refine ⟨_, rfl, ?_⟩) | ((with_reducible refine gate_callee (f := 18) rfl ?_); refine sh_call (some 24) Try.func18 #[.int .i64 16, .int .u64 4660] ?_; (with_reducible refine (word_Swap.calls 16 4660 t169 t170 _ A4.out).mono ?_); rintro e w' ⟨rfl, ⟨nd, rfl⟩⟩; refine ⟨_, rfl, ?_⟩) | ((with_reducible refine gate_callee (f := 13) rfl ?_); refine sh_call (some 28) Try.func13 #[.int .i64 13, .bool true, .int .u64 1, .int .u64 1] ?_; (with_reducible refine (word_Alu.calls 13 true 1 1 t171 t172 _ A5.out).mono ?_); rintro e w' ⟨rfl, ⟨nd, rfl⟩⟩; refine ⟨_, rfl, ?_⟩))
  go_ret
  exact ⟨by first | rfl | (simp; done) | (simp [*]; done), by repeat (first | exact Drawn0.refl _ | apply Drawn0.step)⟩

/-! ### stockadelaw01_WordAlu: function 3 -/
def stockadelaw01_WordAlu.f (k : Nat) (a0_0 : Int) (a0_1 : Bool) (a0_2 : Int) (a0_3 : Int) : Option (Bool) := (word_Alu.f a0_0 a0_1 a0_2 a0_3).bind fun bt175 => ((stockaderef01_Alu.f k a0_0 a0_1 a0_2 a0_3).bind fun bt177 => ((stockadelaw01_awake.f k).bind fun t179 => (if t179 = true then (if bt175.1 = bt177.1 then (some (bt175.2 == bt177.2)) else (some false)) else (some false))))
theorem stockadelaw01_WordAlu.mono : ∀ a0 a1 a2 a3 k, LeO (stockadelaw01_WordAlu.f k a0 a1 a2 a3) (stockadelaw01_WordAlu.f (k + 1) a0 a1 a2 a3) := by
 intro a0 a1 a2 a3 k
 unfold stockadelaw01_WordAlu.f
 repeat' first
   | (with_reducible exact stockadelaw01_awake.mono _)
   | (with_reducible exact stockaderef01_Alu.mono _ _ _ _ _)
   | (with_reducible exact LeO.refl _)
   | (with_reducible exact LeO.none _)
   | (with_reducible refine LeO.ite ?_ ?_)
   | (with_reducible refine LeO.bind ?_ (fun _ => ?_))
   | exact stockadelaw01_awake.mono _
   | exact stockaderef01_Alu.mono _ _ _ _ _
   | exact LeO.none _
   | refine LeO.ite ?_ ?_
   | refine LeO.bind ?_ (fun _ => ?_)
set_option maxHeartbeats 8000000 in
set_option maxRecDepth 100000 in
theorem stockadelaw01_WordAlu.calls (k : Nat) (a0_0 : Int) (a0_1 : Bool) (a0_2 : Int) (a0_3 : Int) (r : Bool) (w : World) (hr_ : r = true) (h : stockadelaw01_WordAlu.f k a0_0 a0_1 a0_2 a0_3 = some r) :
  Calls Try.prog 3 #[.agg #[.int .i64 a0_0, .bool a0_1, .int .u64 a0_2, .int .u64 a0_3]] w fun e w' => e = .returned (.bool r) ∧ Below w.heap.size w w' := by
 have hu24 := Try.underlying24
 have HRT := Aside0.mk hr_
 clear hr_
 have HB := Aside0.mk (Below.refl w.heap.size w)
 have H : ((word_Alu.f a0_0 a0_1 a0_2 a0_3).bind fun bt175 => ((stockaderef01_Alu.f k a0_0 a0_1 a0_2 a0_3).bind fun bt177 => ((stockadelaw01_awake.f k).bind fun t179 => (if t179 = true then (if bt175.1 = bt177.1 then (some (bt175.2 == bt177.2)) else (some false)) else (some false))))) = some r := h
 clear h
 replace H := Option.bind_eq_some_iff.mp H; obtain ⟨⟨t175, t176⟩, A20, H⟩ := H; try dsimp only at H
 have A2 := Aside0.mk A20
 clear A20
 replace H := Option.bind_eq_some_iff.mp H; obtain ⟨⟨t177, t178⟩, A30, H⟩ := H; try dsimp only at H
 have A3 := Aside0.mk A30
 clear A30
 replace H := Option.bind_eq_some_iff.mp H; obtain ⟨t179, A40, H⟩ := H; try dsimp only at H
 have A4 := Aside0.mk A40
 clear A40
 by_cases c5 : t179 = true
 ·subst c5
  replace H := sh_t H
  by_cases c6 : t175 = t177
  ·rw [if_pos c6] at H
   have c6b0 : (t175 == t177) = true := beq_iff_eq.mpr c6
   have c6b1 : (t175 != t177) = false := bne_eq_false_iff_eq.mpr c6
   clear c6
   obtain rfl := Option.some.inj H
   go_enter Try.func3, Try.ntmps3
   go_wp2_with (first | ((with_reducible refine gate_dst (N := 1) rfl ?_); refine sh_box 1 #[.int .i64 a0_0, .bool a0_1, .int .u64 a0_2, .int .u64 a0_3] 24 ?_; intro gb174 hg w7 hbox hb; have GE174 := sh_z (w := w) hg; replace HB := sh_b (w := w) hb; have BK174 := Aside0.mk (hbox); clear hb hbox hg; have hcz8 := blk_all4 BK174.out) | ((with_reducible refine gate_callee (f := 13) rfl ?_); refine sh_call (some 16) Try.func13 #[.int .i64 a0_0, .bool a0_1, .int .u64 a0_2, .int .u64 a0_3] ?_; (with_reducible refine (word_Alu.calls a0_0 a0_1 a0_2 a0_3 t175 t176 _ A2.out).mono ?_); rintro e w' ⟨rfl, ⟨nd, rfl⟩⟩; refine ⟨_, rfl, ?_⟩) | ((with_reducible refine gate_callee (f := 14) rfl ?_); refine sh_call (some 28) Try.func14 #[.int .i64 a0_0, .bool a0_1, .int .u64 a0_2, .int .u64 a0_3] ?_; (with_reducible refine (stockaderef01_Alu.calls k a0_0 a0_1 a0_2 a0_3 t177 t178 _ A3.out).mono ?_); rintro e w' ⟨rfl, ⟨nd, rfl⟩⟩; refine ⟨_, rfl, ?_⟩) | ((with_reducible refine gate_callee (f := 15) rfl ?_); refine sh_call (some 31) Try.func15 #[] ?_; (with_reducible refine (stockadelaw01_awake.calls k  true _ A4.out).mono ?_); rintro e w' ⟨rfl, ⟨nd, rfl⟩⟩; refine ⟨_, rfl, ?_⟩))
   go_ret
   exact ⟨ret_now, b_now⟩
  ·rw [if_neg c6] at H
   have c6b0 : (t175 == t177) = false := beq_eq_false_iff_ne.mpr c6
   have c6b1 : (t175 != t177) = true := bne_iff_ne.mpr c6
   obtain rfl := Option.some.inj H
   exact absurd HRT.out (by simp)
 ·replace c5 := Bool.eq_false_iff.mpr c5
  subst c5
  replace H := sh_f H
  obtain rfl := Option.some.inj H
  exact absurd HRT.out (by simp)

/-! ### stockaderef01_Turned: function 33 -/
def stockaderef01_Turned.f (a0 : Bool) (a1 : Int) : Option (Int) := (stockaderef01_Fit.f a0 a1).bind fun t180 => ((stockaderef01_Size.f a0).bind fun t181 => (if 0 ≤ (IntKind.u64.wrap (t181 - 1)) then (some (Go.bits .xor .u64 t180 (shl .u64 1 (IntKind.u64.wrap (t181 - 1))))) else (none)))
set_option maxHeartbeats 8000000 in
set_option maxRecDepth 100000 in
theorem stockaderef01_Turned.calls (a0 : Bool) (a1 : Int) (r : Int) (w : World) (h : stockaderef01_Turned.f a0 a1 = some r) :
  Calls Try.prog 33 #[.bool a0, .int .u64 a1] w fun e w' => e = .returned (.int .u64 r) ∧ Drawn0 w w' := by
 have H : ((stockaderef01_Fit.f a0 a1).bind fun t180 => ((stockaderef01_Size.f a0).bind fun t181 => (if 0 ≤ (IntKind.u64.wrap (t181 - 1)) then (some (Go.bits .xor .u64 t180 (shl .u64 1 (IntKind.u64.wrap (t181 - 1))))) else (none)))) = some r := h
 clear h
 replace H := Option.bind_eq_some_iff.mp H; obtain ⟨t180, A30, H⟩ := H; try dsimp only at H
 have A3 := Aside0.mk A30
 clear A30
 replace H := Option.bind_eq_some_iff.mp H; obtain ⟨t181, A40, H⟩ := H; try dsimp only at H
 have A4 := Aside0.mk A40
 clear A40
 obtain ⟨ji5, hji5⟩ : ∃ j_ : Int, (IntKind.u64.wrap (t181 - 1)) = j_ := ⟨_, rfl⟩
 replace H : (if 0 ≤ (ji5) then (some (Go.bits .xor .u64 t180 (shl .u64 1 (ji5)))) else (none)) = some r := by first | (rw [hji5] at H; exact H) | (simp only [hji5] at H ⊢; exact H)
 (try rw [hji5] at A3)
 (try rw [hji5] at A4)
 by_cases c6 : 0 ≤ (ji5)
 ·rw [if_pos c6] at H
  have c6b0 := eq_true c6
  have c6b1 : decide (0 ≤ (ji5)) = true := decide_eq_true c6
  clear c6
  obtain ⟨ji7, hji7⟩ : ∃ j_ : Int, (shl .u64 1 (ji5)) = j_ := ⟨_, rfl⟩
  replace H : (some (Go.bits .xor .u64 t180 (ji7))) = some r := by first | (rw [hji7] at H; exact H) | (simp only [hji7] at H ⊢; exact H)
  (try rw [hji7] at A3)
  (try rw [hji7] at A4)
  have hji7_ : (IntKind.u64.wrap (1 * 2 ^ min (ji5).toNat 64)) = ji7 := hji7
  have hji7z : (ji5) ≤ 64 → (IntKind.u64.wrap (1 * 2 ^ (ji5).toNat)) = ji7 := shl_small hji7
  have hji7u : (IntKind.u64.wrap (2 ^ min (ji5).toNat 64)) = ji7 := by have h_ := hji7_; rw [Int.one_mul] at h_; exact h_
  have hji7v : (ji5) ≤ 64 → (IntKind.u64.wrap (2 ^ (ji5).toNat)) = ji7 := fun hle_ => by have h_ := hji7z hle_; rw [Int.one_mul] at h_; exact h_
  obtain rfl := Option.some.inj H
  go_enter Try.func33, Try.ntmps33
  go_wp2_with (first | ((with_reducible refine gate_callee (f := 30) rfl ?_); refine sh_call (some 7) Try.func30 #[.bool a0, .int .u64 a1] ?_; (with_reducible refine (stockaderef01_Fit.calls a0 a1 t180 _ A3.out).mono ?_); rintro e w' ⟨rfl, ⟨nd, rfl⟩⟩; refine ⟨_, rfl, ?_⟩) | ((with_reducible refine gate_callee (f := 31) rfl ?_); refine sh_call (some 9) Try.func31 #[.bool a0] ?_; (with_reducible refine (stockaderef01_Size.calls a0 t181 _ A4.out).mono ?_); rintro e w' ⟨rfl, ⟨nd, rfl⟩⟩; refine ⟨_, rfl, ?_⟩))
  go_ret
  exact ⟨by first | rfl | (simp; done) | (simp only [← hji5, ← hji7] <;> (first | rfl | simp)) | (simp [*]; done), by repeat (first | exact Drawn0.refl _ | apply Drawn0.step)⟩
 ·rw [if_neg c6] at H
  exact absurd H (by simp)

/-! ### stockaderef01_Cond: function 17 -/
def stockaderef01_Cond.f (a0 : Int) (a1 : Bool) (a2 : Int) (a3 : Int) : Option (Bool × Int) := (stockaderef01_Fit.f a1 a2).bind fun t182 => ((stockaderef01_Fit.f a1 a3).bind fun t183 => ((stockaderef01_Turned.f a1 a2).bind fun t184 => ((stockaderef01_Turned.f a1 a3).bind fun t185 => (if a0 = 1 then (some ((t182 == t183), 0)) else (if a0 = 2 then (some (decide (t182 > t183), 0)) else (if a0 = 3 then (some (decide (t182 ≥ t183), 0)) else (if a0 = 4 then (some (decide ((Go.bits .and .u64 t182 t183) > 0), 0)) else (if a0 = 5 then (some ((t182 != t183), 0)) else (if a0 = 6 then (some (decide (t184 > t185), 0)) else (if a0 = 7 then (some (decide (t184 ≥ t185), 0)) else (if a0 = 10 then (some (decide (t182 < t183), 0)) else (if a0 = 11 then (some (decide (t182 ≤ t183), 0)) else (if a0 = 12 then (some (decide (t184 < t185), 0)) else (if a0 = 13 then (some (decide (t184 ≤ t185), 0)) else (some (false, 20))))))))))))))))
set_option maxHeartbeats 8000000 in
set_option maxRecDepth 100000 in
theorem stockaderef01_Cond.calls (a0 : Int) (a1 : Bool) (a2 : Int) (a3 : Int) (r1 : Bool) (r2 : Int) (w : World) (h : stockaderef01_Cond.f a0 a1 a2 a3 = some (r1, r2)) :
  Calls Try.prog 17 #[.int .i64 a0, .bool a1, .int .u64 a2, .int .u64 a3] w fun e w' => e = .returned (.tuple #[.bool r1, .int .i64 r2]) ∧ Drawn0 w w' := by
 have H : ((stockaderef01_Fit.f a1 a2).bind fun t182 => ((stockaderef01_Fit.f a1 a3).bind fun t183 => ((stockaderef01_Turned.f a1 a2).bind fun t184 => ((stockaderef01_Turned.f a1 a3).bind fun t185 => (if a0 = 1 then (some ((t182 == t183), 0)) else (if a0 = 2 then (some (decide (t182 > t183), 0)) else (if a0 = 3 then (some (decide (t182 ≥ t183), 0)) else (if a0 = 4 then (some (decide ((Go.bits .and .u64 t182 t183) > 0), 0)) else (if a0 = 5 then (some ((t182 != t183), 0)) else (if a0 = 6 then (some (decide (t184 > t185), 0)) else (if a0 = 7 then (some (decide (t184 ≥ t185), 0)) else (if a0 = 10 then (some (decide (t182 < t183), 0)) else (if a0 = 11 then (some (decide (t182 ≤ t183), 0)) else (if a0 = 12 then (some (decide (t184 < t185), 0)) else (if a0 = 13 then (some (decide (t184 ≤ t185), 0)) else (some (false, 20))))))))))))))))) = some (r1, r2) := h
 clear h
 replace H := Option.bind_eq_some_iff.mp H; obtain ⟨t182, A50, H⟩ := H; try dsimp only at H
 have A5 := Aside0.mk A50
 clear A50
 replace H := Option.bind_eq_some_iff.mp H; obtain ⟨t183, A60, H⟩ := H; try dsimp only at H
 have A6 := Aside0.mk A60
 clear A60
 replace H := Option.bind_eq_some_iff.mp H; obtain ⟨t184, A70, H⟩ := H; try dsimp only at H
 have A7 := Aside0.mk A70
 clear A70
 replace H := Option.bind_eq_some_iff.mp H; obtain ⟨t185, A80, H⟩ := H; try dsimp only at H
 have A8 := Aside0.mk A80
 clear A80
 by_cases c9 : a0 = 1
 ·rw [if_pos c9] at H
  have c9b0 : (a0 == 1) = true := beq_iff_eq.mpr c9
  have c9b1 : (a0 != 1) = false := bne_eq_false_iff_eq.mpr c9
  clear c9
  simp only [Option.some.injEq, Prod.mk.injEq] at H
  obtain ⟨rfl, rfl⟩ := H
  go_enter Try.func17, Try.ntmps17
  go_wp2_with (first | ((with_reducible refine gate_callee (f := 30) rfl ?_); refine sh_call (some 16) Try.func30 #[.bool a1, .int .u64 a2] ?_; (with_reducible refine (stockaderef01_Fit.calls a1 a2 t182 _ A5.out).mono ?_); rintro e w' ⟨rfl, ⟨nd, rfl⟩⟩; refine ⟨_, rfl, ?_⟩) | ((with_reducible refine gate_callee (f := 30) rfl ?_); refine sh_call (some 19) Try.func30 #[.bool a1, .int .u64 a3] ?_; (with_reducible refine (stockaderef01_Fit.calls a1 a3 t183 _ A6.out).mono ?_); rintro e w' ⟨rfl, ⟨nd, rfl⟩⟩; refine ⟨_, rfl, ?_⟩) | ((with_reducible refine gate_callee (f := 33) rfl ?_); refine sh_call (some 22) Try.func33 #[.bool a1, .int .u64 a2] ?_; (with_reducible refine (stockaderef01_Turned.calls a1 a2 t184 _ A7.out).mono ?_); rintro e w' ⟨rfl, ⟨nd, rfl⟩⟩; refine ⟨_, rfl, ?_⟩) | ((with_reducible refine gate_callee (f := 33) rfl ?_); refine sh_call (some 25) Try.func33 #[.bool a1, .int .u64 a3] ?_; (with_reducible refine (stockaderef01_Turned.calls a1 a3 t185 _ A8.out).mono ?_); rintro e w' ⟨rfl, ⟨nd, rfl⟩⟩; refine ⟨_, rfl, ?_⟩))
  go_ret2
  exact ⟨by first | rfl | (simp; done) | (simp [*]; done), by repeat (first | exact Drawn0.refl _ | apply Drawn0.step)⟩
 ·rw [if_neg c9] at H
  have c9b0 : (a0 == 1) = false := beq_eq_false_iff_ne.mpr c9
  have c9b1 : (a0 != 1) = true := bne_iff_ne.mpr c9
  by_cases c10 : a0 = 2
  ·rw [if_pos c10] at H
   have c10b0 : (a0 == 2) = true := beq_iff_eq.mpr c10
   have c10b1 : (a0 != 2) = false := bne_eq_false_iff_eq.mpr c10
   clear c10
   simp only [Option.some.injEq, Prod.mk.injEq] at H
   obtain ⟨rfl, rfl⟩ := H
   go_enter Try.func17, Try.ntmps17
   go_wp2_with (first | ((with_reducible refine gate_callee (f := 30) rfl ?_); refine sh_call (some 16) Try.func30 #[.bool a1, .int .u64 a2] ?_; (with_reducible refine (stockaderef01_Fit.calls a1 a2 t182 _ A5.out).mono ?_); rintro e w' ⟨rfl, ⟨nd, rfl⟩⟩; refine ⟨_, rfl, ?_⟩) | ((with_reducible refine gate_callee (f := 30) rfl ?_); refine sh_call (some 19) Try.func30 #[.bool a1, .int .u64 a3] ?_; (with_reducible refine (stockaderef01_Fit.calls a1 a3 t183 _ A6.out).mono ?_); rintro e w' ⟨rfl, ⟨nd, rfl⟩⟩; refine ⟨_, rfl, ?_⟩) | ((with_reducible refine gate_callee (f := 33) rfl ?_); refine sh_call (some 22) Try.func33 #[.bool a1, .int .u64 a2] ?_; (with_reducible refine (stockaderef01_Turned.calls a1 a2 t184 _ A7.out).mono ?_); rintro e w' ⟨rfl, ⟨nd, rfl⟩⟩; refine ⟨_, rfl, ?_⟩) | ((with_reducible refine gate_callee (f := 33) rfl ?_); refine sh_call (some 25) Try.func33 #[.bool a1, .int .u64 a3] ?_; (with_reducible refine (stockaderef01_Turned.calls a1 a3 t185 _ A8.out).mono ?_); rintro e w' ⟨rfl, ⟨nd, rfl⟩⟩; refine ⟨_, rfl, ?_⟩))
   go_ret2
   exact ⟨by first | rfl | (simp; done) | (simp [*]; done), by repeat (first | exact Drawn0.refl _ | apply Drawn0.step)⟩
  ·rw [if_neg c10] at H
   have c10b0 : (a0 == 2) = false := beq_eq_false_iff_ne.mpr c10
   have c10b1 : (a0 != 2) = true := bne_iff_ne.mpr c10
   by_cases c11 : a0 = 3
   ·rw [if_pos c11] at H
    have c11b0 : (a0 == 3) = true := beq_iff_eq.mpr c11
    have c11b1 : (a0 != 3) = false := bne_eq_false_iff_eq.mpr c11
    clear c11
    simp only [Option.some.injEq, Prod.mk.injEq] at H
    obtain ⟨rfl, rfl⟩ := H
    go_enter Try.func17, Try.ntmps17
    go_wp2_with (first | ((with_reducible refine gate_callee (f := 30) rfl ?_); refine sh_call (some 16) Try.func30 #[.bool a1, .int .u64 a2] ?_; (with_reducible refine (stockaderef01_Fit.calls a1 a2 t182 _ A5.out).mono ?_); rintro e w' ⟨rfl, ⟨nd, rfl⟩⟩; refine ⟨_, rfl, ?_⟩) | ((with_reducible refine gate_callee (f := 30) rfl ?_); refine sh_call (some 19) Try.func30 #[.bool a1, .int .u64 a3] ?_; (with_reducible refine (stockaderef01_Fit.calls a1 a3 t183 _ A6.out).mono ?_); rintro e w' ⟨rfl, ⟨nd, rfl⟩⟩; refine ⟨_, rfl, ?_⟩) | ((with_reducible refine gate_callee (f := 33) rfl ?_); refine sh_call (some 22) Try.func33 #[.bool a1, .int .u64 a2] ?_; (with_reducible refine (stockaderef01_Turned.calls a1 a2 t184 _ A7.out).mono ?_); rintro e w' ⟨rfl, ⟨nd, rfl⟩⟩; refine ⟨_, rfl, ?_⟩) | ((with_reducible refine gate_callee (f := 33) rfl ?_); refine sh_call (some 25) Try.func33 #[.bool a1, .int .u64 a3] ?_; (with_reducible refine (stockaderef01_Turned.calls a1 a3 t185 _ A8.out).mono ?_); rintro e w' ⟨rfl, ⟨nd, rfl⟩⟩; refine ⟨_, rfl, ?_⟩))
    go_ret2
    exact ⟨by first | rfl | (simp; done) | (simp [*]; done), by repeat (first | exact Drawn0.refl _ | apply Drawn0.step)⟩
   ·rw [if_neg c11] at H
    have c11b0 : (a0 == 3) = false := beq_eq_false_iff_ne.mpr c11
    have c11b1 : (a0 != 3) = true := bne_iff_ne.mpr c11
    by_cases c12 : a0 = 4
    ·rw [if_pos c12] at H
     have c12b0 : (a0 == 4) = true := beq_iff_eq.mpr c12
     have c12b1 : (a0 != 4) = false := bne_eq_false_iff_eq.mpr c12
     clear c12
     simp only [Option.some.injEq, Prod.mk.injEq] at H
     obtain ⟨rfl, rfl⟩ := H
     go_enter Try.func17, Try.ntmps17
     go_wp2_with (first | ((with_reducible refine gate_callee (f := 30) rfl ?_); refine sh_call (some 16) Try.func30 #[.bool a1, .int .u64 a2] ?_; (with_reducible refine (stockaderef01_Fit.calls a1 a2 t182 _ A5.out).mono ?_); rintro e w' ⟨rfl, ⟨nd, rfl⟩⟩; refine ⟨_, rfl, ?_⟩) | ((with_reducible refine gate_callee (f := 30) rfl ?_); refine sh_call (some 19) Try.func30 #[.bool a1, .int .u64 a3] ?_; (with_reducible refine (stockaderef01_Fit.calls a1 a3 t183 _ A6.out).mono ?_); rintro e w' ⟨rfl, ⟨nd, rfl⟩⟩; refine ⟨_, rfl, ?_⟩) | ((with_reducible refine gate_callee (f := 33) rfl ?_); refine sh_call (some 22) Try.func33 #[.bool a1, .int .u64 a2] ?_; (with_reducible refine (stockaderef01_Turned.calls a1 a2 t184 _ A7.out).mono ?_); rintro e w' ⟨rfl, ⟨nd, rfl⟩⟩; refine ⟨_, rfl, ?_⟩) | ((with_reducible refine gate_callee (f := 33) rfl ?_); refine sh_call (some 25) Try.func33 #[.bool a1, .int .u64 a3] ?_; (with_reducible refine (stockaderef01_Turned.calls a1 a3 t185 _ A8.out).mono ?_); rintro e w' ⟨rfl, ⟨nd, rfl⟩⟩; refine ⟨_, rfl, ?_⟩))
     go_ret2
     exact ⟨by first | rfl | (simp; done) | (simp [*]; done), by repeat (first | exact Drawn0.refl _ | apply Drawn0.step)⟩
    ·rw [if_neg c12] at H
     have c12b0 : (a0 == 4) = false := beq_eq_false_iff_ne.mpr c12
     have c12b1 : (a0 != 4) = true := bne_iff_ne.mpr c12
     by_cases c13 : a0 = 5
     ·rw [if_pos c13] at H
      have c13b0 : (a0 == 5) = true := beq_iff_eq.mpr c13
      have c13b1 : (a0 != 5) = false := bne_eq_false_iff_eq.mpr c13
      clear c13
      simp only [Option.some.injEq, Prod.mk.injEq] at H
      obtain ⟨rfl, rfl⟩ := H
      go_enter Try.func17, Try.ntmps17
      go_wp2_with (first | ((with_reducible refine gate_callee (f := 30) rfl ?_); refine sh_call (some 16) Try.func30 #[.bool a1, .int .u64 a2] ?_; (with_reducible refine (stockaderef01_Fit.calls a1 a2 t182 _ A5.out).mono ?_); rintro e w' ⟨rfl, ⟨nd, rfl⟩⟩; refine ⟨_, rfl, ?_⟩) | ((with_reducible refine gate_callee (f := 30) rfl ?_); refine sh_call (some 19) Try.func30 #[.bool a1, .int .u64 a3] ?_; (with_reducible refine (stockaderef01_Fit.calls a1 a3 t183 _ A6.out).mono ?_); rintro e w' ⟨rfl, ⟨nd, rfl⟩⟩; refine ⟨_, rfl, ?_⟩) | ((with_reducible refine gate_callee (f := 33) rfl ?_); refine sh_call (some 22) Try.func33 #[.bool a1, .int .u64 a2] ?_; (with_reducible refine (stockaderef01_Turned.calls a1 a2 t184 _ A7.out).mono ?_); rintro e w' ⟨rfl, ⟨nd, rfl⟩⟩; refine ⟨_, rfl, ?_⟩) | ((with_reducible refine gate_callee (f := 33) rfl ?_); refine sh_call (some 25) Try.func33 #[.bool a1, .int .u64 a3] ?_; (with_reducible refine (stockaderef01_Turned.calls a1 a3 t185 _ A8.out).mono ?_); rintro e w' ⟨rfl, ⟨nd, rfl⟩⟩; refine ⟨_, rfl, ?_⟩))
      go_ret2
      exact ⟨by first | rfl | (simp; done) | (simp [*]; done), by repeat (first | exact Drawn0.refl _ | apply Drawn0.step)⟩
     ·rw [if_neg c13] at H
      have c13b0 : (a0 == 5) = false := beq_eq_false_iff_ne.mpr c13
      have c13b1 : (a0 != 5) = true := bne_iff_ne.mpr c13
      by_cases c14 : a0 = 6
      ·rw [if_pos c14] at H
       have c14b0 : (a0 == 6) = true := beq_iff_eq.mpr c14
       have c14b1 : (a0 != 6) = false := bne_eq_false_iff_eq.mpr c14
       clear c14
       simp only [Option.some.injEq, Prod.mk.injEq] at H
       obtain ⟨rfl, rfl⟩ := H
       go_enter Try.func17, Try.ntmps17
       go_wp2_with (first | ((with_reducible refine gate_callee (f := 30) rfl ?_); refine sh_call (some 16) Try.func30 #[.bool a1, .int .u64 a2] ?_; (with_reducible refine (stockaderef01_Fit.calls a1 a2 t182 _ A5.out).mono ?_); rintro e w' ⟨rfl, ⟨nd, rfl⟩⟩; refine ⟨_, rfl, ?_⟩) | ((with_reducible refine gate_callee (f := 30) rfl ?_); refine sh_call (some 19) Try.func30 #[.bool a1, .int .u64 a3] ?_; (with_reducible refine (stockaderef01_Fit.calls a1 a3 t183 _ A6.out).mono ?_); rintro e w' ⟨rfl, ⟨nd, rfl⟩⟩; refine ⟨_, rfl, ?_⟩) | ((with_reducible refine gate_callee (f := 33) rfl ?_); refine sh_call (some 22) Try.func33 #[.bool a1, .int .u64 a2] ?_; (with_reducible refine (stockaderef01_Turned.calls a1 a2 t184 _ A7.out).mono ?_); rintro e w' ⟨rfl, ⟨nd, rfl⟩⟩; refine ⟨_, rfl, ?_⟩) | ((with_reducible refine gate_callee (f := 33) rfl ?_); refine sh_call (some 25) Try.func33 #[.bool a1, .int .u64 a3] ?_; (with_reducible refine (stockaderef01_Turned.calls a1 a3 t185 _ A8.out).mono ?_); rintro e w' ⟨rfl, ⟨nd, rfl⟩⟩; refine ⟨_, rfl, ?_⟩))
       go_ret2
       exact ⟨by first | rfl | (simp; done) | (simp [*]; done), by repeat (first | exact Drawn0.refl _ | apply Drawn0.step)⟩
      ·rw [if_neg c14] at H
       have c14b0 : (a0 == 6) = false := beq_eq_false_iff_ne.mpr c14
       have c14b1 : (a0 != 6) = true := bne_iff_ne.mpr c14
       by_cases c15 : a0 = 7
       ·rw [if_pos c15] at H
        have c15b0 : (a0 == 7) = true := beq_iff_eq.mpr c15
        have c15b1 : (a0 != 7) = false := bne_eq_false_iff_eq.mpr c15
        clear c15
        simp only [Option.some.injEq, Prod.mk.injEq] at H
        obtain ⟨rfl, rfl⟩ := H
        go_enter Try.func17, Try.ntmps17
        go_wp2_with (first | ((with_reducible refine gate_callee (f := 30) rfl ?_); refine sh_call (some 16) Try.func30 #[.bool a1, .int .u64 a2] ?_; (with_reducible refine (stockaderef01_Fit.calls a1 a2 t182 _ A5.out).mono ?_); rintro e w' ⟨rfl, ⟨nd, rfl⟩⟩; refine ⟨_, rfl, ?_⟩) | ((with_reducible refine gate_callee (f := 30) rfl ?_); refine sh_call (some 19) Try.func30 #[.bool a1, .int .u64 a3] ?_; (with_reducible refine (stockaderef01_Fit.calls a1 a3 t183 _ A6.out).mono ?_); rintro e w' ⟨rfl, ⟨nd, rfl⟩⟩; refine ⟨_, rfl, ?_⟩) | ((with_reducible refine gate_callee (f := 33) rfl ?_); refine sh_call (some 22) Try.func33 #[.bool a1, .int .u64 a2] ?_; (with_reducible refine (stockaderef01_Turned.calls a1 a2 t184 _ A7.out).mono ?_); rintro e w' ⟨rfl, ⟨nd, rfl⟩⟩; refine ⟨_, rfl, ?_⟩) | ((with_reducible refine gate_callee (f := 33) rfl ?_); refine sh_call (some 25) Try.func33 #[.bool a1, .int .u64 a3] ?_; (with_reducible refine (stockaderef01_Turned.calls a1 a3 t185 _ A8.out).mono ?_); rintro e w' ⟨rfl, ⟨nd, rfl⟩⟩; refine ⟨_, rfl, ?_⟩))
        go_ret2
        exact ⟨by first | rfl | (simp; done) | (simp [*]; done), by repeat (first | exact Drawn0.refl _ | apply Drawn0.step)⟩
       ·rw [if_neg c15] at H
        have c15b0 : (a0 == 7) = false := beq_eq_false_iff_ne.mpr c15
        have c15b1 : (a0 != 7) = true := bne_iff_ne.mpr c15
        by_cases c16 : a0 = 10
        ·rw [if_pos c16] at H
         have c16b0 : (a0 == 10) = true := beq_iff_eq.mpr c16
         have c16b1 : (a0 != 10) = false := bne_eq_false_iff_eq.mpr c16
         clear c16
         simp only [Option.some.injEq, Prod.mk.injEq] at H
         obtain ⟨rfl, rfl⟩ := H
         go_enter Try.func17, Try.ntmps17
         go_wp2_with (first | ((with_reducible refine gate_callee (f := 30) rfl ?_); refine sh_call (some 16) Try.func30 #[.bool a1, .int .u64 a2] ?_; (with_reducible refine (stockaderef01_Fit.calls a1 a2 t182 _ A5.out).mono ?_); rintro e w' ⟨rfl, ⟨nd, rfl⟩⟩; refine ⟨_, rfl, ?_⟩) | ((with_reducible refine gate_callee (f := 30) rfl ?_); refine sh_call (some 19) Try.func30 #[.bool a1, .int .u64 a3] ?_; (with_reducible refine (stockaderef01_Fit.calls a1 a3 t183 _ A6.out).mono ?_); rintro e w' ⟨rfl, ⟨nd, rfl⟩⟩; refine ⟨_, rfl, ?_⟩) | ((with_reducible refine gate_callee (f := 33) rfl ?_); refine sh_call (some 22) Try.func33 #[.bool a1, .int .u64 a2] ?_; (with_reducible refine (stockaderef01_Turned.calls a1 a2 t184 _ A7.out).mono ?_); rintro e w' ⟨rfl, ⟨nd, rfl⟩⟩; refine ⟨_, rfl, ?_⟩) | ((with_reducible refine gate_callee (f := 33) rfl ?_); refine sh_call (some 25) Try.func33 #[.bool a1, .int .u64 a3] ?_; (with_reducible refine (stockaderef01_Turned.calls a1 a3 t185 _ A8.out).mono ?_); rintro e w' ⟨rfl, ⟨nd, rfl⟩⟩; refine ⟨_, rfl, ?_⟩))
         go_ret2
         exact ⟨by first | rfl | (simp; done) | (simp [*]; done), by repeat (first | exact Drawn0.refl _ | apply Drawn0.step)⟩
        ·rw [if_neg c16] at H
         have c16b0 : (a0 == 10) = false := beq_eq_false_iff_ne.mpr c16
         have c16b1 : (a0 != 10) = true := bne_iff_ne.mpr c16
         by_cases c17 : a0 = 11
         ·rw [if_pos c17] at H
          have c17b0 : (a0 == 11) = true := beq_iff_eq.mpr c17
          have c17b1 : (a0 != 11) = false := bne_eq_false_iff_eq.mpr c17
          clear c17
          simp only [Option.some.injEq, Prod.mk.injEq] at H
          obtain ⟨rfl, rfl⟩ := H
          go_enter Try.func17, Try.ntmps17
          go_wp2_with (first | ((with_reducible refine gate_callee (f := 30) rfl ?_); refine sh_call (some 16) Try.func30 #[.bool a1, .int .u64 a2] ?_; (with_reducible refine (stockaderef01_Fit.calls a1 a2 t182 _ A5.out).mono ?_); rintro e w' ⟨rfl, ⟨nd, rfl⟩⟩; refine ⟨_, rfl, ?_⟩) | ((with_reducible refine gate_callee (f := 30) rfl ?_); refine sh_call (some 19) Try.func30 #[.bool a1, .int .u64 a3] ?_; (with_reducible refine (stockaderef01_Fit.calls a1 a3 t183 _ A6.out).mono ?_); rintro e w' ⟨rfl, ⟨nd, rfl⟩⟩; refine ⟨_, rfl, ?_⟩) | ((with_reducible refine gate_callee (f := 33) rfl ?_); refine sh_call (some 22) Try.func33 #[.bool a1, .int .u64 a2] ?_; (with_reducible refine (stockaderef01_Turned.calls a1 a2 t184 _ A7.out).mono ?_); rintro e w' ⟨rfl, ⟨nd, rfl⟩⟩; refine ⟨_, rfl, ?_⟩) | ((with_reducible refine gate_callee (f := 33) rfl ?_); refine sh_call (some 25) Try.func33 #[.bool a1, .int .u64 a3] ?_; (with_reducible refine (stockaderef01_Turned.calls a1 a3 t185 _ A8.out).mono ?_); rintro e w' ⟨rfl, ⟨nd, rfl⟩⟩; refine ⟨_, rfl, ?_⟩))
          go_ret2
          exact ⟨by first | rfl | (simp; done) | (simp [*]; done), by repeat (first | exact Drawn0.refl _ | apply Drawn0.step)⟩
         ·rw [if_neg c17] at H
          have c17b0 : (a0 == 11) = false := beq_eq_false_iff_ne.mpr c17
          have c17b1 : (a0 != 11) = true := bne_iff_ne.mpr c17
          by_cases c18 : a0 = 12
          ·rw [if_pos c18] at H
           have c18b0 : (a0 == 12) = true := beq_iff_eq.mpr c18
           have c18b1 : (a0 != 12) = false := bne_eq_false_iff_eq.mpr c18
           clear c18
           simp only [Option.some.injEq, Prod.mk.injEq] at H
           obtain ⟨rfl, rfl⟩ := H
           go_enter Try.func17, Try.ntmps17
           go_wp2_with (first | ((with_reducible refine gate_callee (f := 30) rfl ?_); refine sh_call (some 16) Try.func30 #[.bool a1, .int .u64 a2] ?_; (with_reducible refine (stockaderef01_Fit.calls a1 a2 t182 _ A5.out).mono ?_); rintro e w' ⟨rfl, ⟨nd, rfl⟩⟩; refine ⟨_, rfl, ?_⟩) | ((with_reducible refine gate_callee (f := 30) rfl ?_); refine sh_call (some 19) Try.func30 #[.bool a1, .int .u64 a3] ?_; (with_reducible refine (stockaderef01_Fit.calls a1 a3 t183 _ A6.out).mono ?_); rintro e w' ⟨rfl, ⟨nd, rfl⟩⟩; refine ⟨_, rfl, ?_⟩) | ((with_reducible refine gate_callee (f := 33) rfl ?_); refine sh_call (some 22) Try.func33 #[.bool a1, .int .u64 a2] ?_; (with_reducible refine (stockaderef01_Turned.calls a1 a2 t184 _ A7.out).mono ?_); rintro e w' ⟨rfl, ⟨nd, rfl⟩⟩; refine ⟨_, rfl, ?_⟩) | ((with_reducible refine gate_callee (f := 33) rfl ?_); refine sh_call (some 25) Try.func33 #[.bool a1, .int .u64 a3] ?_; (with_reducible refine (stockaderef01_Turned.calls a1 a3 t185 _ A8.out).mono ?_); rintro e w' ⟨rfl, ⟨nd, rfl⟩⟩; refine ⟨_, rfl, ?_⟩))
           go_ret2
           exact ⟨by first | rfl | (simp; done) | (simp [*]; done), by repeat (first | exact Drawn0.refl _ | apply Drawn0.step)⟩
          ·rw [if_neg c18] at H
           have c18b0 : (a0 == 12) = false := beq_eq_false_iff_ne.mpr c18
           have c18b1 : (a0 != 12) = true := bne_iff_ne.mpr c18
           by_cases c19 : a0 = 13
           ·rw [if_pos c19] at H
            have c19b0 : (a0 == 13) = true := beq_iff_eq.mpr c19
            have c19b1 : (a0 != 13) = false := bne_eq_false_iff_eq.mpr c19
            clear c19
            simp only [Option.some.injEq, Prod.mk.injEq] at H
            obtain ⟨rfl, rfl⟩ := H
            go_enter Try.func17, Try.ntmps17
            go_wp2_with (first | ((with_reducible refine gate_callee (f := 30) rfl ?_); refine sh_call (some 16) Try.func30 #[.bool a1, .int .u64 a2] ?_; (with_reducible refine (stockaderef01_Fit.calls a1 a2 t182 _ A5.out).mono ?_); rintro e w' ⟨rfl, ⟨nd, rfl⟩⟩; refine ⟨_, rfl, ?_⟩) | ((with_reducible refine gate_callee (f := 30) rfl ?_); refine sh_call (some 19) Try.func30 #[.bool a1, .int .u64 a3] ?_; (with_reducible refine (stockaderef01_Fit.calls a1 a3 t183 _ A6.out).mono ?_); rintro e w' ⟨rfl, ⟨nd, rfl⟩⟩; refine ⟨_, rfl, ?_⟩) | ((with_reducible refine gate_callee (f := 33) rfl ?_); refine sh_call (some 22) Try.func33 #[.bool a1, .int .u64 a2] ?_; (with_reducible refine (stockaderef01_Turned.calls a1 a2 t184 _ A7.out).mono ?_); rintro e w' ⟨rfl, ⟨nd, rfl⟩⟩; refine ⟨_, rfl, ?_⟩) | ((with_reducible refine gate_callee (f := 33) rfl ?_); refine sh_call (some 25) Try.func33 #[.bool a1, .int .u64 a3] ?_; (with_reducible refine (stockaderef01_Turned.calls a1 a3 t185 _ A8.out).mono ?_); rintro e w' ⟨rfl, ⟨nd, rfl⟩⟩; refine ⟨_, rfl, ?_⟩))
            go_ret2
            exact ⟨by first | rfl | (simp; done) | (simp [*]; done), by repeat (first | exact Drawn0.refl _ | apply Drawn0.step)⟩
           ·rw [if_neg c19] at H
            have c19b0 : (a0 == 13) = false := beq_eq_false_iff_ne.mpr c19
            have c19b1 : (a0 != 13) = true := bne_iff_ne.mpr c19
            simp only [Option.some.injEq, Prod.mk.injEq] at H
            obtain ⟨rfl, rfl⟩ := H
            go_enter Try.func17, Try.ntmps17
            go_wp2_with (first | ((with_reducible refine gate_callee (f := 30) rfl ?_); refine sh_call (some 16) Try.func30 #[.bool a1, .int .u64 a2] ?_; (with_reducible refine (stockaderef01_Fit.calls a1 a2 t182 _ A5.out).mono ?_); rintro e w' ⟨rfl, ⟨nd, rfl⟩⟩; refine ⟨_, rfl, ?_⟩) | ((with_reducible refine gate_callee (f := 30) rfl ?_); refine sh_call (some 19) Try.func30 #[.bool a1, .int .u64 a3] ?_; (with_reducible refine (stockaderef01_Fit.calls a1 a3 t183 _ A6.out).mono ?_); rintro e w' ⟨rfl, ⟨nd, rfl⟩⟩; refine ⟨_, rfl, ?_⟩) | ((with_reducible refine gate_callee (f := 33) rfl ?_); refine sh_call (some 22) Try.func33 #[.bool a1, .int .u64 a2] ?_; (with_reducible refine (stockaderef01_Turned.calls a1 a2 t184 _ A7.out).mono ?_); rintro e w' ⟨rfl, ⟨nd, rfl⟩⟩; refine ⟨_, rfl, ?_⟩) | ((with_reducible refine gate_callee (f := 33) rfl ?_); refine sh_call (some 25) Try.func33 #[.bool a1, .int .u64 a3] ?_; (with_reducible refine (stockaderef01_Turned.calls a1 a3 t185 _ A8.out).mono ?_); rintro e w' ⟨rfl, ⟨nd, rfl⟩⟩; refine ⟨_, rfl, ?_⟩))
            go_ret2
            exact ⟨by first | rfl | (simp; done) | (simp [*]; done), by repeat (first | exact Drawn0.refl _ | apply Drawn0.step)⟩

/-! ### stockadelaw01_WordConds: function 4 -/
def stockadelaw01_WordConds.f (k : Nat) (a0_0 : Int) (a0_1 : Bool) (a0_2 : Int) (a0_3 : Int) : Option (Bool) := (word_Cond.f k a0_0 a0_1 a0_2 a0_3).bind fun bt187 => ((stockaderef01_Cond.f a0_0 a0_1 a0_2 a0_3).bind fun bt189 => ((stockadelaw01_awake.f k).bind fun t191 => (if t191 = true then (if (bt187.1 == bt189.1) = true then (some (bt187.2 == bt189.2)) else (some false)) else (some false))))
theorem stockadelaw01_WordConds.mono : ∀ a0 a1 a2 a3 k, LeO (stockadelaw01_WordConds.f k a0 a1 a2 a3) (stockadelaw01_WordConds.f (k + 1) a0 a1 a2 a3) := by
 intro a0 a1 a2 a3 k
 unfold stockadelaw01_WordConds.f
 repeat' first
   | (with_reducible exact stockadelaw01_awake.mono _)
   | (with_reducible exact word_Cond.mono _ _ _ _ _)
   | (with_reducible exact LeO.refl _)
   | (with_reducible exact LeO.none _)
   | (with_reducible refine LeO.ite ?_ ?_)
   | (with_reducible refine LeO.bind ?_ (fun _ => ?_))
   | exact stockadelaw01_awake.mono _
   | exact word_Cond.mono _ _ _ _ _
   | exact LeO.none _
   | refine LeO.ite ?_ ?_
   | refine LeO.bind ?_ (fun _ => ?_)
set_option maxHeartbeats 8000000 in
set_option maxRecDepth 100000 in
theorem stockadelaw01_WordConds.calls (k : Nat) (a0_0 : Int) (a0_1 : Bool) (a0_2 : Int) (a0_3 : Int) (r : Bool) (w : World) (hr_ : r = true) (h : stockadelaw01_WordConds.f k a0_0 a0_1 a0_2 a0_3 = some r) :
  Calls Try.prog 4 #[.agg #[.int .i64 a0_0, .bool a0_1, .int .u64 a0_2, .int .u64 a0_3]] w fun e w' => e = .returned (.bool r) ∧ Below w.heap.size w w' := by
 have hu24 := Try.underlying24
 have HRT := Aside0.mk hr_
 clear hr_
 have HB := Aside0.mk (Below.refl w.heap.size w)
 have H : ((word_Cond.f k a0_0 a0_1 a0_2 a0_3).bind fun bt187 => ((stockaderef01_Cond.f a0_0 a0_1 a0_2 a0_3).bind fun bt189 => ((stockadelaw01_awake.f k).bind fun t191 => (if t191 = true then (if (bt187.1 == bt189.1) = true then (some (bt187.2 == bt189.2)) else (some false)) else (some false))))) = some r := h
 clear h
 replace H := Option.bind_eq_some_iff.mp H; obtain ⟨⟨t187, t188⟩, A20, H⟩ := H; try dsimp only at H
 have A2 := Aside0.mk A20
 clear A20
 replace H := Option.bind_eq_some_iff.mp H; obtain ⟨⟨t189, t190⟩, A30, H⟩ := H; try dsimp only at H
 have A3 := Aside0.mk A30
 clear A30
 replace H := Option.bind_eq_some_iff.mp H; obtain ⟨t191, A40, H⟩ := H; try dsimp only at H
 have A4 := Aside0.mk A40
 clear A40
 by_cases c5 : t191 = true
 ·subst c5
  replace H := sh_t H
  by_cases c6 : (t187 == t189) = true
  ·rw [if_pos c6] at H
   have c6b0 : (t187 == t189) = true := c6
   (try (have c6b1 : decide (t187 = t189) = true := by simpa using c6))
   (try (have c6b2 : (t187 == t189) = true := by simpa using c6))
   clear c6
   obtain rfl := Option.some.inj H
   go_enter Try.func4, Try.ntmps4
   go_wp2_with (first | ((with_reducible refine gate_dst (N := 1) rfl ?_); refine sh_box 1 #[.int .i64 a0_0, .bool a0_1, .int .u64 a0_2, .int .u64 a0_3] 24 ?_; intro gb186 hg w7 hbox hb; have GE186 := sh_z (w := w) hg; replace HB := sh_b (w := w) hb; have BK186 := Aside0.mk (hbox); clear hb hbox hg; have hcz8 := blk_all4 BK186.out) | ((with_reducible refine gate_callee (f := 16) rfl ?_); refine sh_call (some 16) Try.func16 #[.int .i64 a0_0, .bool a0_1, .int .u64 a0_2, .int .u64 a0_3] ?_; (with_reducible refine (word_Cond.calls k a0_0 a0_1 a0_2 a0_3 t187 t188 _ A2.out).mono ?_); rintro e w' ⟨rfl, ⟨nd, rfl⟩⟩; refine ⟨_, rfl, ?_⟩) | ((with_reducible refine gate_callee (f := 17) rfl ?_); refine sh_call (some 28) Try.func17 #[.int .i64 a0_0, .bool a0_1, .int .u64 a0_2, .int .u64 a0_3] ?_; (with_reducible refine (stockaderef01_Cond.calls a0_0 a0_1 a0_2 a0_3 t189 t190 _ A3.out).mono ?_); rintro e w' ⟨rfl, ⟨nd, rfl⟩⟩; refine ⟨_, rfl, ?_⟩) | ((with_reducible refine gate_callee (f := 15) rfl ?_); refine sh_call (some 31) Try.func15 #[] ?_; (with_reducible refine (stockadelaw01_awake.calls k  true _ A4.out).mono ?_); rintro e w' ⟨rfl, ⟨nd, rfl⟩⟩; refine ⟨_, rfl, ?_⟩))
   go_ret
   exact ⟨ret_now, b_now⟩
  ·rw [if_neg c6] at H
   have c6b0 : (t187 == t189) = false := by simpa using c6
   (try (have c6b1 : decide (t187 = t189) = false := by simpa using c6))
   (try (have c6b2 : (t187 == t189) = false := by simpa using c6))
   (try (have c6b3 : ¬ (t187 = t189) := by simpa using c6))
   clear c6
   obtain rfl := Option.some.inj H
   exact absurd HRT.out (by simp)
 ·replace c5 := Bool.eq_false_iff.mpr c5
  subst c5
  replace H := sh_f H
  obtain rfl := Option.some.inj H
  exact absurd HRT.out (by simp)

/-! ### stockaderef01_Swap: function 19 -/
mutual
def stockaderef01_Swap.j0 : Nat → Int → Int → Bool → Option (Int × Int)
 | 0, _, _, _ => none
 | k + 1, x0, x1, x17 => if x17 = true then (some (0, 1)) else (stockaderef01_Swap.l0 k x0 x1 0 0)
def stockaderef01_Swap.l0 : Nat → Int → Int → Int → Int → Option (Int × Int)
 | 0, _, _, _, _ => none
 | k + 1, x0, x1, x6, x7 => if x7 < (wrap64 (Int.tdiv x0 8)) then (stockaderef01_Swap.l0 k x0 (IntKind.u64.wrap (Int.tdiv x1 256)) (IntKind.u64.wrap ((IntKind.u64.wrap (x6 * 256)) + (Int.tmod x1 256))) (wrap64 (x7 + 1))) else (some (x6, 0))
end
def stockaderef01_Swap.f (k : Nat) (a0 : Int) (a1 : Int) : Option (Int × Int) := if a0 = 16 then (stockaderef01_Swap.j0 k a0 a1 false) else (if a0 = 32 then (stockaderef01_Swap.j0 k a0 a1 false) else (stockaderef01_Swap.j0 k a0 a1 (a0 != 64)))
theorem stockaderef01_Swap.mono_l : ∀ k, (∀ y0 y1 y2, LeO (stockaderef01_Swap.j0 k y0 y1 y2) (stockaderef01_Swap.j0 (k + 1) y0 y1 y2)) ∧ (∀ y0 y1 y2 y3, LeO (stockaderef01_Swap.l0 k y0 y1 y2 y3) (stockaderef01_Swap.l0 (k + 1) y0 y1 y2 y3))
 | 0 => ⟨fun _ _ _ r h => by simp [stockaderef01_Swap.j0] at h, fun _ _ _ _ r h => by simp [stockaderef01_Swap.l0] at h⟩
 | k + 1 => by
  obtain ⟨ih0, ih1⟩ := stockaderef01_Swap.mono_l k
  refine ⟨?_, ?_⟩
  ·intro y0 y1 y2
   unfold stockaderef01_Swap.j0
   repeat' first
   | (with_reducible exact ih0 _ _ _)
   | (with_reducible exact ih1 _ _ _ _)
   | (with_reducible exact LeO.refl _)
   | (with_reducible exact LeO.none _)
   | (with_reducible refine LeO.ite ?_ ?_)
   | (with_reducible refine LeO.bind ?_ (fun _ => ?_))
   | exact ih0 _ _ _
   | exact ih1 _ _ _ _
   | exact LeO.none _
   | refine LeO.ite ?_ ?_
   | refine LeO.bind ?_ (fun _ => ?_)
  ·intro y0 y1 y2 y3
   unfold stockaderef01_Swap.l0
   repeat' first
   | (with_reducible exact ih0 _ _ _)
   | (with_reducible exact ih1 _ _ _ _)
   | (with_reducible exact LeO.refl _)
   | (with_reducible exact LeO.none _)
   | (with_reducible refine LeO.ite ?_ ?_)
   | (with_reducible refine LeO.bind ?_ (fun _ => ?_))
   | exact ih0 _ _ _
   | exact ih1 _ _ _ _
   | exact LeO.none _
   | refine LeO.ite ?_ ?_
   | refine LeO.bind ?_ (fun _ => ?_)
theorem stockaderef01_Swap.mono : ∀ a0 a1 k, LeO (stockaderef01_Swap.f k a0 a1) (stockaderef01_Swap.f (k + 1) a0 a1) := by
 intro a0 a1 k
 obtain ⟨ih0, ih1⟩ := stockaderef01_Swap.mono_l k
 unfold stockaderef01_Swap.f
 repeat' first
   | (with_reducible exact ih0 _ _ _)
   | (with_reducible exact ih1 _ _ _ _)
   | (with_reducible exact LeO.refl _)
   | (with_reducible exact LeO.none _)
   | (with_reducible refine LeO.ite ?_ ?_)
   | (with_reducible refine LeO.bind ?_ (fun _ => ?_))
   | exact ih0 _ _ _
   | exact ih1 _ _ _ _
   | exact LeO.none _
   | refine LeO.ite ?_ ?_
   | refine LeO.bind ?_ (fun _ => ?_)
set_option maxHeartbeats 8000000 in
set_option maxRecDepth 100000 in
theorem stockaderef01_Swap.calls (k : Nat) (a0 : Int) (a1 : Int) (r1 : Int) (r2 : Int) (w : World) (h : stockaderef01_Swap.f k a0 a1 = some (r1, r2)) :
  Calls Try.prog 19 #[.int .i64 a0, .int .u64 a1] w fun e w' => e = .returned (.tuple #[.int .u64 r1, .int .i64 r2]) ∧ Drawn0 w w' := by
 have H : (if a0 = 16 then (stockaderef01_Swap.j0 k a0 a1 false) else (if a0 = 32 then (stockaderef01_Swap.j0 k a0 a1 false) else (stockaderef01_Swap.j0 k a0 a1 (a0 != 64)))) = some (r1, r2) := h
 clear h
 have HC3 := Aside0.mk H
 clear H
 go_enter Try.func19, Try.ntmps19
 go_upto_region 1 with (fail)
 go_cut [17] (fun v17 wc => ∃ (kq : Nat) (x17_2 : Bool), v17 = .bool x17_2 ∧ Aside0 (stockaderef01_Swap.j0 kq a0 a1 x17_2 = some (r1, r2)) ∧ Aside0 (kq ≤ k) ∧ Drawn0 w wc)
 case first =>
  have H := HC3.out
  clear HC3
  by_cases c4 : a0 = 16
  ·rw [if_pos c4] at H
   have c4b0 : (a0 == 16) = true := beq_iff_eq.mpr c4
   have c4b1 : (a0 != 16) = false := bne_eq_false_iff_eq.mpr c4
   clear c4
   (first | rw [c4b0] | (simp only [i64_w, i32_w]; rw [c4b0]) | skip)
   have H' := Aside0.mk H
   clear H
   go_wp2
   go_meet
   case rel => exact ⟨_, (false), eq_now, H', ⟨by first | omega | exact Nat.le_refl _⟩, by repeat (first | exact Drawn0.refl _ | apply Drawn0.step)⟩
  ·rw [if_neg c4] at H
   have c4b0 : (a0 == 16) = false := beq_eq_false_iff_ne.mpr c4
   have c4b1 : (a0 != 16) = true := bne_iff_ne.mpr c4
   (first | rw [c4b0] | (simp only [i64_w, i32_w]; rw [c4b0]) | skip)
   by_cases c5 : a0 = 32
   ·rw [if_pos c5] at H
    have c5b0 : (a0 == 32) = true := beq_iff_eq.mpr c5
    have c5b1 : (a0 != 32) = false := bne_eq_false_iff_eq.mpr c5
    clear c5
    have H' := Aside0.mk H
    clear H
    go_wp2
    go_meet
    case rel => exact ⟨_, (false), eq_now, H', ⟨by first | omega | exact Nat.le_refl _⟩, by repeat (first | exact Drawn0.refl _ | apply Drawn0.step)⟩
   ·rw [if_neg c5] at H
    have c5b0 : (a0 == 32) = false := beq_eq_false_iff_ne.mpr c5
    have c5b1 : (a0 != 32) = true := bne_iff_ne.mpr c5
    have H' := Aside0.mk H
    clear H
    go_wp2
    go_meet
    case rel => exact ⟨_, ((a0 != 64)), eq_now, H', ⟨by first | omega | exact Nat.le_refl _⟩, by repeat (first | exact Drawn0.refl _ | apply Drawn0.step)⟩
 case rest =>
  clear HC3
  try clear c1
  try clear p2
  try clear c4
  try clear c4b0
  try clear c4b1
  try clear c5
  try clear c5b0
  try clear c5b1
  obtain ⟨kq, x17_2, rfl, HA, HJ2, ⟨mc2, rfl⟩⟩ := hcut
  cases kq with
  | zero => exact absurd HA.out (by simp [stockaderef01_Swap.j0])
  | succ kj2 =>
   have H := HA.out
   clear HA
   simp only [stockaderef01_Swap.j0] at H
   by_cases c6 : x17_2 = true
   ·subst c6
    replace H := sh_t H
    simp only [Option.some.injEq, Prod.mk.injEq] at H
    obtain ⟨rfl, rfl⟩ := H
    go_wp2
    go_ret2
    exact ⟨by first | rfl | (simp; done) | (simp [*]; done), by repeat (first | exact Drawn0.refl _ | apply Drawn0.step)⟩
   ·replace c6 := Bool.eq_false_iff.mpr c6
    subst c6
    replace H := sh_f H
    have H' := Aside0.mk H
    clear H
    go_wp2
    go_loopg [1, 6, 7] kj2 (fun kq v1 v6 v7 w' => ∃ (x1_2 : Int) (x6_2 : Int) (x7_2 : Int), v1 = .int .u64 x1_2 ∧ v6 = .int .u64 x6_2 ∧ v7 = .int .i64 x7_2 ∧ Aside0 (stockaderef01_Swap.l0 kq a0 x1_2 x6_2 x7_2 = some (r1, r2)) ∧ Aside0 (kq ≤ kj2) ∧ Drawn0 w w')
    case atStart => exact ⟨(a1), (0), (0), eq_now, eq_now, eq_now, H', ⟨Nat.le_refl _⟩, by repeat (first | exact Drawn0.refl _ | apply Drawn0.step)⟩
    case round =>
     clear H'
     try clear c1
     try clear c2
     try clear p2
     try clear c4
     try clear c4b0
     try clear c4b1
     try clear c5
     try clear c5b0
     try clear c5b1
     try clear c6
     try clear p2
     obtain ⟨x1_2, x6_2, x7_2, rfl, rfl, rfl, HA, HK2, ⟨m2, rfl⟩⟩ := hrel
     cases gk with
     | zero => exact absurd HA.out (by simp [stockaderef01_Swap.l0])
     | succ k2 =>
      have H := HA.out
      clear HA
      simp only [stockaderef01_Swap.l0] at H
      by_cases c7 : x7_2 < (wrap64 (Int.tdiv a0 8))
      ·rw [if_pos c7] at H
       have c7b0 : decide (x7_2 < (wrap64 (Int.tdiv a0 8))) = true := decide_eq_true c7
       clear c7
       have H' := Aside0.mk H
       clear H
       go_wp2
       go_roundg k2
       case measure => have := HJ2.out; have := HK2.out; omega
       case rel => exact ⟨(IntKind.u64.wrap (Int.tdiv x1_2 256)), (IntKind.u64.wrap ((IntKind.u64.wrap (x6_2 * 256)) + (Int.tmod x1_2 256))), (wrap64 (x7_2 + 1)), eq_now, eq_now, eq_now, H', ⟨by have := HJ2.out; have := HK2.out; omega⟩, by repeat (first | exact Drawn0.refl _ | apply Drawn0.step)⟩
      ·rw [if_neg c7] at H
       have c7b0 : decide (x7_2 < (wrap64 (Int.tdiv a0 8))) = false := decide_eq_false c7
       clear c7
       simp only [Option.some.injEq, Prod.mk.injEq] at H
       obtain ⟨rfl, rfl⟩ := H
       go_wp2
       go_ret2
       exact ⟨by first | rfl | (simp; done) | (simp [*]; done), by repeat (first | exact Drawn0.refl _ | apply Drawn0.step)⟩

/-! ### stockaderef01_Ext: function 21 -/
def stockaderef01_Ext.f (a0 : Int) : Option (Int) := if a0 ≥ 0 then (some (IntKind.u64.wrap (a0))) else (some (IntKind.u64.wrap (-(IntKind.u64.wrap (wrap64 (-(wrap64 (a0))))))))
set_option maxHeartbeats 8000000 in
set_option maxRecDepth 100000 in
theorem stockaderef01_Ext.calls (a0 : Int) (r : Int) (w : World) (h : stockaderef01_Ext.f a0 = some r) :
  Calls Try.prog 21 #[.int .i32 a0] w fun e w' => e = .returned (.int .u64 r) ∧ Drawn0 w w' := by
 have H : (if a0 ≥ 0 then (some (IntKind.u64.wrap (a0))) else (some (IntKind.u64.wrap (-(IntKind.u64.wrap (wrap64 (-(wrap64 (a0))))))))) = some r := h
 clear h
 by_cases c2 : a0 ≥ 0
 ·rw [if_pos c2] at H
  have c2b0 : decide (0 ≤ a0) = true := decide_eq_true c2
  clear c2
  obtain rfl := Option.some.inj H
  go_enter Try.func21, Try.ntmps21
  go_wp2
  go_ret
  exact ⟨by first | rfl | (simp; done) | (simp [*]; done), by repeat (first | exact Drawn0.refl _ | apply Drawn0.step)⟩
 ·rw [if_neg c2] at H
  have c2b0 : decide (0 ≤ a0) = false := decide_eq_false c2
  clear c2
  obtain rfl := Option.some.inj H
  go_enter Try.func21, Try.ntmps21
  go_wp2
  go_ret
  exact ⟨by first | rfl | (simp; done) | (simp [*]; done), by repeat (first | exact Drawn0.refl _ | apply Drawn0.step)⟩

/-! ### stockadelaw01_WordSwaps: function 5 -/
def stockadelaw01_WordSwaps.f (k : Nat) (a0 : Int) (a1 : Int) (a2 : Int) : Option (Bool) := (word_Swap.f a0 a1).bind fun bt192 => ((stockaderef01_Swap.f k a0 a1).bind fun bt194 => ((stockadelaw01_awake.f k).bind fun t196 => (if t196 = true then (if bt192.1 = bt194.1 then (if bt192.2 = bt194.2 then ((word_Ext.f a2).bind fun t197 => ((stockaderef01_Ext.f a2).bind fun t198 => (some (t197 == t198)))) else (some false)) else (some false)) else (some false))))
theorem stockadelaw01_WordSwaps.mono : ∀ a0 a1 a2 k, LeO (stockadelaw01_WordSwaps.f k a0 a1 a2) (stockadelaw01_WordSwaps.f (k + 1) a0 a1 a2) := by
 intro a0 a1 a2 k
 unfold stockadelaw01_WordSwaps.f
 repeat' first
   | (with_reducible exact stockadelaw01_awake.mono _)
   | (with_reducible exact stockaderef01_Swap.mono _ _ _)
   | (with_reducible exact LeO.refl _)
   | (with_reducible exact LeO.none _)
   | (with_reducible refine LeO.ite ?_ ?_)
   | (with_reducible refine LeO.bind ?_ (fun _ => ?_))
   | exact stockadelaw01_awake.mono _
   | exact stockaderef01_Swap.mono _ _ _
   | exact LeO.none _
   | refine LeO.ite ?_ ?_
   | refine LeO.bind ?_ (fun _ => ?_)
set_option maxHeartbeats 8000000 in
set_option maxRecDepth 100000 in
theorem stockadelaw01_WordSwaps.calls (k : Nat) (a0 : Int) (a1 : Int) (a2 : Int) (r : Bool) (w : World) (hr_ : r = true) (h : stockadelaw01_WordSwaps.f k a0 a1 a2 = some r) :
  Calls Try.prog 5 #[.int .i64 a0, .int .u64 a1, .int .i32 a2] w fun e w' => e = .returned (.bool r) ∧ Drawn0 w w' := by
 have HRT := Aside0.mk hr_
 clear hr_
 have H : ((word_Swap.f a0 a1).bind fun bt192 => ((stockaderef01_Swap.f k a0 a1).bind fun bt194 => ((stockadelaw01_awake.f k).bind fun t196 => (if t196 = true then (if bt192.1 = bt194.1 then (if bt192.2 = bt194.2 then ((word_Ext.f a2).bind fun t197 => ((stockaderef01_Ext.f a2).bind fun t198 => (some (t197 == t198)))) else (some false)) else (some false)) else (some false))))) = some r := h
 clear h
 replace H := Option.bind_eq_some_iff.mp H; obtain ⟨⟨t192, t193⟩, A40, H⟩ := H; try dsimp only at H
 have A4 := Aside0.mk A40
 clear A40
 replace H := Option.bind_eq_some_iff.mp H; obtain ⟨⟨t194, t195⟩, A50, H⟩ := H; try dsimp only at H
 have A5 := Aside0.mk A50
 clear A50
 replace H := Option.bind_eq_some_iff.mp H; obtain ⟨t196, A60, H⟩ := H; try dsimp only at H
 have A6 := Aside0.mk A60
 clear A60
 by_cases c7 : t196 = true
 ·subst c7
  replace H := sh_t H
  by_cases c8 : t192 = t194
  ·rw [if_pos c8] at H
   have c8b0 : (t192 == t194) = true := beq_iff_eq.mpr c8
   have c8b1 : (t192 != t194) = false := bne_eq_false_iff_eq.mpr c8
   clear c8
   by_cases c9 : t193 = t195
   ·rw [if_pos c9] at H
    have c9b0 : (t193 == t195) = true := beq_iff_eq.mpr c9
    have c9b1 : (t193 != t195) = false := bne_eq_false_iff_eq.mpr c9
    clear c9
    replace H := Option.bind_eq_some_iff.mp H; obtain ⟨t197, A100, H⟩ := H; try dsimp only at H
    have A10 := Aside0.mk A100
    clear A100
    replace H := Option.bind_eq_some_iff.mp H; obtain ⟨t198, A110, H⟩ := H; try dsimp only at H
    have A11 := Aside0.mk A110
    clear A110
    obtain rfl := Option.some.inj H
    go_enter Try.func5, Try.ntmps5
    go_wp2_with (first | ((with_reducible refine gate_callee (f := 18) rfl ?_); refine sh_call (some 14) Try.func18 #[.int .i64 a0, .int .u64 a1] ?_; (with_reducible refine (word_Swap.calls a0 a1 t192 t193 _ A4.out).mono ?_); rintro e w' ⟨rfl, ⟨nd, rfl⟩⟩; refine ⟨_, rfl, ?_⟩) | ((with_reducible refine gate_callee (f := 19) rfl ?_); refine sh_call (some 20) Try.func19 #[.int .i64 a0, .int .u64 a1] ?_; (with_reducible refine (stockaderef01_Swap.calls k a0 a1 t194 t195 _ A5.out).mono ?_); rintro e w' ⟨rfl, ⟨nd, rfl⟩⟩; refine ⟨_, rfl, ?_⟩) | ((with_reducible refine gate_callee (f := 15) rfl ?_); refine sh_call (some 23) Try.func15 #[] ?_; (with_reducible refine (stockadelaw01_awake.calls k  true _ A6.out).mono ?_); rintro e w' ⟨rfl, ⟨nd, rfl⟩⟩; refine ⟨_, rfl, ?_⟩) | (go_at_call 20; (with_reducible refine (word_Ext.calls a2 t197 _ A10.out).mono ?_); rintro e w' ⟨rfl, ⟨nd, rfl⟩⟩) | (go_at_call 21; (with_reducible refine (stockaderef01_Ext.calls a2 t198 _ A11.out).mono ?_); rintro e w' ⟨rfl, ⟨nd, rfl⟩⟩))
    go_ret
    exact ⟨by first | rfl | (simp; done) | (simp [*]; done), by repeat (first | exact Drawn0.refl _ | apply Drawn0.step)⟩
   ·rw [if_neg c9] at H
    have c9b0 : (t193 == t195) = false := beq_eq_false_iff_ne.mpr c9
    have c9b1 : (t193 != t195) = true := bne_iff_ne.mpr c9
    obtain rfl := Option.some.inj H
    exact absurd HRT.out (by simp)
  ·rw [if_neg c8] at H
   have c8b0 : (t192 == t194) = false := beq_eq_false_iff_ne.mpr c8
   have c8b1 : (t192 != t194) = true := bne_iff_ne.mpr c8
   obtain rfl := Option.some.inj H
   exact absurd HRT.out (by simp)
 ·replace c7 := Bool.eq_false_iff.mpr c7
  subst c7
  replace H := sh_f H
  obtain rfl := Option.some.inj H
  exact absurd HRT.out (by simp)

end Go.Proofs.Ytgmgnlmhfhdfgaa.P
