/- Made by this session's driver over the kit's printer: for each Go function a Lean function with the same answers, and a proof that the Go call comes to these answers; no conditions but the ones each theorem names. -/
import Derived.Test.YtgmgnlmhfhdfgaaPx0
import Derived.Test.YtgmgnlmhfhdfgaaPx1
import Derived.Test.YtgmgnlmhfhdfgaaPx2
import Derived.Test.YtgmgnlmhfhdfgaaPx3
import Derived.Test.YtgmgnlmhfhdfgaaPx4
namespace Go.Proofs.Ytgmgnlmhfhdfgaa.P
open Go.RowKit Go.Proofs.YtgmgnlmhfhdfgaaW.PrintWords Go.Proofs.YtgmgnlmhfhdfgaaW.PrintLast Go.Proofs.YtgmgnlmhfhdfgaaW.PrintMore
attribute [local go_sem] max2_int min2_int max_two min_two max_three min_three max_four min_four   -- for this text's walks alone
set_option linter.unusedVariables false
set_option linter.unusedSimpArgs false

/-! ### stockadelaw01_WordShifts: function 8 -/
def stockadelaw01_WordShifts.j0 : Nat → Bool → Int → Int → Int → Int → Bool → Option (Bool)
  | 0, _, _, _, _, _, _ => none
  | k + 1, x0, x1, x7, x10, x11, x48 => if x48 = true then (some false) else ((stockadelaw01_fit.f x0 x1).bind fun t246 => ((stockadelaw01_size.f x0).bind fun t247 => (if 0 ≤ (IntKind.u64.wrap (t247 - 1)) then (if (shr .u64 t246 (IntKind.u64.wrap (t247 - 1))) = 0 then (some (x11 == x10)) else ((stockadelaw01_fit.f x0 (Go.bits .xor .u64 18446744073709551615 x1)).bind fun t248 => (if 0 ≤ x7 then ((stockadelaw01_fit.f x0 (Go.bits .xor .u64 18446744073709551615 (shr .u64 t248 x7))).bind fun t249 => (some (x11 == t249))) else (none)))) else (none))))
def stockadelaw01_WordShifts.f (k : Nat) (a0 : Bool) (a1 : Int) (a2 : Int) : Option (Bool) := (stockadelaw01_awake.f k).bind fun t238 => (if t238 = true then ((stockadelaw01_fit.f a0 a2).bind fun t239 => ((stockadelaw01_size.f a0).bind fun t240 => (if t240 = 0 then (none) else (if 0 ≤ (Int.tmod t239 t240) then ((stockadelaw01_alu.f 6 a0 a1 a2).bind fun t241 => ((stockadelaw01_alu.f 7 a0 a1 a2).bind fun t242 => ((stockadelaw01_alu.f 12 a0 a1 a2).bind fun t243 => ((stockadelaw01_alu.f 2 a0 a1 (shl .u64 1 (Int.tmod t239 t240))).bind fun t244 => (if t241 = t244 then ((stockadelaw01_alu.f 3 a0 a1 (shl .u64 1 (Int.tmod t239 t240))).bind fun t245 => (stockadelaw01_WordShifts.j0 k a0 a1 (Int.tmod t239 t240) t242 t243 (t242 != t245))) else (stockadelaw01_WordShifts.j0 k a0 a1 (Int.tmod t239 t240) t242 t243 true)))))) else (none))))) else (some false))
theorem stockadelaw01_WordShifts.mono_l : ∀ k, (∀ y0 y1 y2 y3 y4 y5, LeO (stockadelaw01_WordShifts.j0 k y0 y1 y2 y3 y4 y5) (stockadelaw01_WordShifts.j0 (k + 1) y0 y1 y2 y3 y4 y5))
  | 0 => fun _ _ _ _ _ _ r h => by simp [stockadelaw01_WordShifts.j0] at h
  | k + 1 => by
    have ih0 := stockadelaw01_WordShifts.mono_l k
    · intro y0 y1 y2 y3 y4 y5
      unfold stockadelaw01_WordShifts.j0
      repeat' first
      | (with_reducible exact ih0 _ _ _ _ _ _)
      | (with_reducible exact stockadelaw01_awake.mono _)
      | (with_reducible exact LeO.refl _)
      | (with_reducible exact LeO.none _)
      | (with_reducible refine LeO.ite ?_ ?_)
      | (with_reducible refine LeO.bind ?_ (fun _ => ?_))
      | exact ih0 _ _ _ _ _ _
      | exact stockadelaw01_awake.mono _
      | exact LeO.none _
      | refine LeO.ite ?_ ?_
      | refine LeO.bind ?_ (fun _ => ?_)
theorem stockadelaw01_WordShifts.mono : ∀ a0 a1 a2 k, LeO (stockadelaw01_WordShifts.f k a0 a1 a2) (stockadelaw01_WordShifts.f (k + 1) a0 a1 a2) := by
  intro a0 a1 a2 k
  have ih0 := stockadelaw01_WordShifts.mono_l k
  unfold stockadelaw01_WordShifts.f
  repeat' first
      | (with_reducible exact ih0 _ _ _ _ _ _)
      | (with_reducible exact stockadelaw01_awake.mono _)
      | (with_reducible exact LeO.refl _)
      | (with_reducible exact LeO.none _)
      | (with_reducible refine LeO.ite ?_ ?_)
      | (with_reducible refine LeO.bind ?_ (fun _ => ?_))
      | exact ih0 _ _ _ _ _ _
      | exact stockadelaw01_awake.mono _
      | exact LeO.none _
      | refine LeO.ite ?_ ?_
      | refine LeO.bind ?_ (fun _ => ?_)
set_option maxHeartbeats 8000000 in
set_option maxRecDepth 100000 in
theorem stockadelaw01_WordShifts.calls (k : Nat) (a0 : Bool) (a1 : Int) (a2 : Int) (r : Bool) (w : World) (h : stockadelaw01_WordShifts.f k a0 a1 a2 = some r) :
    Calls Try.prog 8 #[.bool a0, .int .u64 a1, .int .u64 a2] w fun e w' => e = .returned (.bool r) ∧ Drawn0 w w' := by
  have H : ((stockadelaw01_awake.f k).bind fun t238 => (if t238 = true then ((stockadelaw01_fit.f a0 a2).bind fun t239 => ((stockadelaw01_size.f a0).bind fun t240 => (if t240 = 0 then (none) else (if 0 ≤ (Int.tmod t239 t240) then ((stockadelaw01_alu.f 6 a0 a1 a2).bind fun t241 => ((stockadelaw01_alu.f 7 a0 a1 a2).bind fun t242 => ((stockadelaw01_alu.f 12 a0 a1 a2).bind fun t243 => ((stockadelaw01_alu.f 2 a0 a1 (shl .u64 1 (Int.tmod t239 t240))).bind fun t244 => (if t241 = t244 then ((stockadelaw01_alu.f 3 a0 a1 (shl .u64 1 (Int.tmod t239 t240))).bind fun t245 => (stockadelaw01_WordShifts.j0 k a0 a1 (Int.tmod t239 t240) t242 t243 (t242 != t245))) else (stockadelaw01_WordShifts.j0 k a0 a1 (Int.tmod t239 t240) t242 t243 true)))))) else (none))))) else (some false))) = some r := h
  clear h
  replace H := Option.bind_eq_some_iff.mp H
  obtain ⟨t238, A40, H⟩ := H
  replace H : (if t238 = true then ((stockadelaw01_fit.f a0 a2).bind fun t239 => ((stockadelaw01_size.f a0).bind fun t240 => (if t240 = 0 then (none) else (if 0 ≤ (Int.tmod t239 t240) then ((stockadelaw01_alu.f 6 a0 a1 a2).bind fun t241 => ((stockadelaw01_alu.f 7 a0 a1 a2).bind fun t242 => ((stockadelaw01_alu.f 12 a0 a1 a2).bind fun t243 => ((stockadelaw01_alu.f 2 a0 a1 (shl .u64 1 (Int.tmod t239 t240))).bind fun t244 => (if t241 = t244 then ((stockadelaw01_alu.f 3 a0 a1 (shl .u64 1 (Int.tmod t239 t240))).bind fun t245 => (stockadelaw01_WordShifts.j0 k a0 a1 (Int.tmod t239 t240) t242 t243 (t242 != t245))) else (stockadelaw01_WordShifts.j0 k a0 a1 (Int.tmod t239 t240) t242 t243 true)))))) else (none))))) else (some false)) = some r := H
  have A4 := Aside0.mk A40
  clear A40
  by_cases c5 : t238 = true
  · subst c5
    have H1 : ((stockadelaw01_fit.f a0 a2).bind fun t239 => ((stockadelaw01_size.f a0).bind fun t240 => (if t240 = 0 then (none) else (if 0 ≤ (Int.tmod t239 t240) then ((stockadelaw01_alu.f 6 a0 a1 a2).bind fun t241 => ((stockadelaw01_alu.f 7 a0 a1 a2).bind fun t242 => ((stockadelaw01_alu.f 12 a0 a1 a2).bind fun t243 => ((stockadelaw01_alu.f 2 a0 a1 (shl .u64 1 (Int.tmod t239 t240))).bind fun t244 => (if t241 = t244 then ((stockadelaw01_alu.f 3 a0 a1 (shl .u64 1 (Int.tmod t239 t240))).bind fun t245 => (stockadelaw01_WordShifts.j0 k a0 a1 (Int.tmod t239 t240) t242 t243 (t242 != t245))) else (stockadelaw01_WordShifts.j0 k a0 a1 (Int.tmod t239 t240) t242 t243 true)))))) else (none))))) = some r := by rw [if_pos rfl] at H; exact H
    clear H
    have H := H1
    clear H1
    replace H := Option.bind_eq_some_iff.mp H
    obtain ⟨t239, A60, H⟩ := H
    replace H : ((stockadelaw01_size.f a0).bind fun t240 => (if t240 = 0 then (none) else (if 0 ≤ (Int.tmod t239 t240) then ((stockadelaw01_alu.f 6 a0 a1 a2).bind fun t241 => ((stockadelaw01_alu.f 7 a0 a1 a2).bind fun t242 => ((stockadelaw01_alu.f 12 a0 a1 a2).bind fun t243 => ((stockadelaw01_alu.f 2 a0 a1 (shl .u64 1 (Int.tmod t239 t240))).bind fun t244 => (if t241 = t244 then ((stockadelaw01_alu.f 3 a0 a1 (shl .u64 1 (Int.tmod t239 t240))).bind fun t245 => (stockadelaw01_WordShifts.j0 k a0 a1 (Int.tmod t239 t240) t242 t243 (t242 != t245))) else (stockadelaw01_WordShifts.j0 k a0 a1 (Int.tmod t239 t240) t242 t243 true)))))) else (none)))) = some r := H
    have A6 := Aside0.mk A60
    clear A60
    replace H := Option.bind_eq_some_iff.mp H
    obtain ⟨t240, A70, H⟩ := H
    replace H : (if t240 = 0 then (none) else (if 0 ≤ (Int.tmod t239 t240) then ((stockadelaw01_alu.f 6 a0 a1 a2).bind fun t241 => ((stockadelaw01_alu.f 7 a0 a1 a2).bind fun t242 => ((stockadelaw01_alu.f 12 a0 a1 a2).bind fun t243 => ((stockadelaw01_alu.f 2 a0 a1 (shl .u64 1 (Int.tmod t239 t240))).bind fun t244 => (if t241 = t244 then ((stockadelaw01_alu.f 3 a0 a1 (shl .u64 1 (Int.tmod t239 t240))).bind fun t245 => (stockadelaw01_WordShifts.j0 k a0 a1 (Int.tmod t239 t240) t242 t243 (t242 != t245))) else (stockadelaw01_WordShifts.j0 k a0 a1 (Int.tmod t239 t240) t242 t243 true)))))) else (none))) = some r := H
    have A7 := Aside0.mk A70
    clear A70
    by_cases c8 : t240 = 0
    · rw [if_pos c8] at H
      exact absurd H (by simp)
    · rw [if_neg c8] at H
      have c8b0 : (t240 == 0) = false := beq_eq_false_iff_ne.mpr c8
      have c8b1 : (t240 != 0) = true := bne_iff_ne.mpr c8
      obtain ⟨ji9, hji9⟩ : ∃ j_ : Int, (Int.tmod t239 t240) = j_ := ⟨_, rfl⟩
      replace H : (if 0 ≤ (ji9) then ((stockadelaw01_alu.f 6 a0 a1 a2).bind fun t241 => ((stockadelaw01_alu.f 7 a0 a1 a2).bind fun t242 => ((stockadelaw01_alu.f 12 a0 a1 a2).bind fun t243 => ((stockadelaw01_alu.f 2 a0 a1 (shl .u64 1 (ji9))).bind fun t244 => (if t241 = t244 then ((stockadelaw01_alu.f 3 a0 a1 (shl .u64 1 (ji9))).bind fun t245 => (stockadelaw01_WordShifts.j0 k a0 a1 ji9 t242 t243 (t242 != t245))) else (stockadelaw01_WordShifts.j0 k a0 a1 ji9 t242 t243 true)))))) else (none)) = some r := by first | (rw [hji9] at H; exact H) | (simp only [hji9] at H ⊢; exact H)
      (try rw [hji9] at A4)
      (try rw [hji9] at A6)
      (try rw [hji9] at A7)
      by_cases c10 : 0 ≤ (ji9)
      · rw [if_pos c10] at H
        have c10b0 := eq_true c10
        have c10b1 : decide (0 ≤ (ji9)) = true := decide_eq_true c10
        clear c10
        obtain ⟨ji11, hji11⟩ : ∃ j_ : Int, (shl .u64 1 (ji9)) = j_ := ⟨_, rfl⟩
        replace H : ((stockadelaw01_alu.f 6 a0 a1 a2).bind fun t241 => ((stockadelaw01_alu.f 7 a0 a1 a2).bind fun t242 => ((stockadelaw01_alu.f 12 a0 a1 a2).bind fun t243 => ((stockadelaw01_alu.f 2 a0 a1 (ji11)).bind fun t244 => (if t241 = t244 then ((stockadelaw01_alu.f 3 a0 a1 (ji11)).bind fun t245 => (stockadelaw01_WordShifts.j0 k a0 a1 ji9 t242 t243 (t242 != t245))) else (stockadelaw01_WordShifts.j0 k a0 a1 ji9 t242 t243 true)))))) = some r := by first | (rw [hji11] at H; exact H) | (simp only [hji11] at H ⊢; exact H)
        (try rw [hji11] at A4)
        (try rw [hji11] at A6)
        (try rw [hji11] at A7)
        have hji11_ : (IntKind.u64.wrap (1 * 2 ^ min (ji9).toNat 64)) = ji11 := hji11
        have hji11z : (ji9) ≤ 64 → (IntKind.u64.wrap (1 * 2 ^ (ji9).toNat)) = ji11 := shl_small hji11
        have hji11u : (IntKind.u64.wrap (2 ^ min (ji9).toNat 64)) = ji11 := by have h_ := hji11_; rw [Int.one_mul] at h_; exact h_
        have hji11v : (ji9) ≤ 64 → (IntKind.u64.wrap (2 ^ (ji9).toNat)) = ji11 := fun hle_ => by have h_ := hji11z hle_; rw [Int.one_mul] at h_; exact h_
        replace H := Option.bind_eq_some_iff.mp H
        obtain ⟨t241, A120, H⟩ := H
        replace H : ((stockadelaw01_alu.f 7 a0 a1 a2).bind fun t242 => ((stockadelaw01_alu.f 12 a0 a1 a2).bind fun t243 => ((stockadelaw01_alu.f 2 a0 a1 (ji11)).bind fun t244 => (if t241 = t244 then ((stockadelaw01_alu.f 3 a0 a1 (ji11)).bind fun t245 => (stockadelaw01_WordShifts.j0 k a0 a1 ji9 t242 t243 (t242 != t245))) else (stockadelaw01_WordShifts.j0 k a0 a1 ji9 t242 t243 true))))) = some r := H
        have A12 := Aside0.mk A120
        clear A120
        replace H := Option.bind_eq_some_iff.mp H
        obtain ⟨t242, A130, H⟩ := H
        replace H : ((stockadelaw01_alu.f 12 a0 a1 a2).bind fun t243 => ((stockadelaw01_alu.f 2 a0 a1 (ji11)).bind fun t244 => (if t241 = t244 then ((stockadelaw01_alu.f 3 a0 a1 (ji11)).bind fun t245 => (stockadelaw01_WordShifts.j0 k a0 a1 ji9 t242 t243 (t242 != t245))) else (stockadelaw01_WordShifts.j0 k a0 a1 ji9 t242 t243 true)))) = some r := H
        have A13 := Aside0.mk A130
        clear A130
        replace H := Option.bind_eq_some_iff.mp H
        obtain ⟨t243, A140, H⟩ := H
        replace H : ((stockadelaw01_alu.f 2 a0 a1 (ji11)).bind fun t244 => (if t241 = t244 then ((stockadelaw01_alu.f 3 a0 a1 (ji11)).bind fun t245 => (stockadelaw01_WordShifts.j0 k a0 a1 ji9 t242 t243 (t242 != t245))) else (stockadelaw01_WordShifts.j0 k a0 a1 ji9 t242 t243 true))) = some r := H
        have A14 := Aside0.mk A140
        clear A140
        have HC15 := Aside0.mk H
        clear H
        go_enter Try.func8, Try.ntmps8
        go_upto_region 6 with (first | ((with_reducible refine gate_callee (f := 15) rfl ?_); refine goesL_ (some 13) rfl rfl Try.func15 (by kernel_rfl) rfl #[] rfl (by (try simp only [List.map_toArray, List.map_cons, List.map_nil]); first | done | rfl | (simp only [List.length_drop, List.length_take]; rfl)) ?_; (with_reducible refine (stockadelaw01_awake.calls k  true _ A4.out).mono ?_); rintro e w' ⟨rfl, ⟨nd, rfl⟩⟩; refine ⟨_, rfl, ?_⟩) | ((with_reducible refine gate_callee (f := 23) rfl ?_); refine goesL_ (some 17) rfl rfl Try.func23 (by kernel_rfl) rfl #[.bool a0, .int .u64 a2] rfl (by (try simp only [List.map_toArray, List.map_cons, List.map_nil]); first | done | rfl | (simp only [List.length_drop, List.length_take]; rfl)) ?_; (with_reducible refine (stockadelaw01_fit.calls a0 a2 t239 _ A6.out).mono ?_); rintro e w' ⟨rfl, ⟨nd, rfl⟩⟩; refine ⟨_, rfl, ?_⟩) | ((with_reducible refine gate_callee (f := 24) rfl ?_); refine goesL_ (some 19) rfl rfl Try.func24 (by kernel_rfl) rfl #[.bool a0] rfl (by (try simp only [List.map_toArray, List.map_cons, List.map_nil]); first | done | rfl | (simp only [List.length_drop, List.length_take]; rfl)) ?_; (with_reducible refine (stockadelaw01_size.calls a0 t240 _ A7.out).mono ?_); rintro e w' ⟨rfl, ⟨nd, rfl⟩⟩; refine ⟨_, rfl, ?_⟩) | ((with_reducible refine gate_callee (f := 22) rfl ?_); refine goesL_ (some 26) rfl rfl Try.func22 (by kernel_rfl) rfl #[.int .i64 6, .bool a0, .int .u64 a1, .int .u64 a2] rfl (by (try simp only [List.map_toArray, List.map_cons, List.map_nil]); first | done | rfl | (simp only [List.length_drop, List.length_take]; rfl)) ?_; (with_reducible refine (stockadelaw01_alu.calls 6 a0 a1 a2 t241 _ A12.out).mono ?_); rintro e w' ⟨rfl, ⟨nd, rfl⟩⟩; refine ⟨_, rfl, ?_⟩) | ((with_reducible refine gate_callee (f := 22) rfl ?_); refine goesL_ (some 30) rfl rfl Try.func22 (by kernel_rfl) rfl #[.int .i64 7, .bool a0, .int .u64 a1, .int .u64 a2] rfl (by (try simp only [List.map_toArray, List.map_cons, List.map_nil]); first | done | rfl | (simp only [List.length_drop, List.length_take]; rfl)) ?_; (with_reducible refine (stockadelaw01_alu.calls 7 a0 a1 a2 t242 _ A13.out).mono ?_); rintro e w' ⟨rfl, ⟨nd, rfl⟩⟩; refine ⟨_, rfl, ?_⟩) | ((with_reducible refine gate_callee (f := 22) rfl ?_); refine goesL_ (some 34) rfl rfl Try.func22 (by kernel_rfl) rfl #[.int .i64 12, .bool a0, .int .u64 a1, .int .u64 a2] rfl (by (try simp only [List.map_toArray, List.map_cons, List.map_nil]); first | done | rfl | (simp only [List.length_drop, List.length_take]; rfl)) ?_; (with_reducible refine (stockadelaw01_alu.calls 12 a0 a1 a2 t243 _ A14.out).mono ?_); rintro e w' ⟨rfl, ⟨nd, rfl⟩⟩; refine ⟨_, rfl, ?_⟩))
        (try simp only [Act.put, List.setIfInBounds_toArray, List.set_cons_zero, List.set_cons_succ])
        go_cut [48] (fun v48 wc => ∃ (kq : Nat) (x48_14 : Bool), v48 = .bool x48_14 ∧ Aside0 (stockadelaw01_WordShifts.j0 kq a0 a1 ji9 t242 t243 x48_14 = some r) ∧ Aside0 (kq ≤ k) ∧ Drawn0 w wc)
        case first =>
          have H := HC15.out
          clear HC15
          replace H := Option.bind_eq_some_iff.mp H
          obtain ⟨t244, A160, H⟩ := H
          replace H : (if t241 = t244 then ((stockadelaw01_alu.f 3 a0 a1 (ji11)).bind fun t245 => (stockadelaw01_WordShifts.j0 k a0 a1 ji9 t242 t243 (t242 != t245))) else (stockadelaw01_WordShifts.j0 k a0 a1 ji9 t242 t243 true)) = some r := H
          have A16 := Aside0.mk A160
          clear A160
          by_cases c17 : t241 = t244
          · rw [if_pos c17] at H
            have c17b0 : (t241 == t244) = true := beq_iff_eq.mpr c17
            have c17b1 : (t241 != t244) = false := bne_eq_false_iff_eq.mpr c17
            clear c17
            (first | rw [c17b0] | (simp only [i64_w, i32_w]; rw [c17b0]) | skip)
            replace H := Option.bind_eq_some_iff.mp H
            obtain ⟨t245, A180, H⟩ := H
            replace H : (stockadelaw01_WordShifts.j0 k a0 a1 ji9 t242 t243 (t242 != t245)) = some r := H
            have A18 := Aside0.mk A180
            clear A180
            have H' := Aside0.mk H
            clear H
            go_wp2_with (first | ((with_reducible refine gate_callee (f := 22) rfl ?_); refine goesL_ (some 39) rfl rfl Try.func22 (by kernel_rfl) rfl #[.int .i64 2, .bool a0, .int .u64 a1, .int .u64 ji11] rfl (by (try simp only [List.map_toArray, List.map_cons, List.map_nil]); first | done | (simp only [hji11]; rfl) | rfl | (simp only [List.length_drop, List.length_take]; rfl)) ?_; (with_reducible refine (stockadelaw01_alu.calls 2 a0 a1 ji11 t244 _ A16.out).mono ?_); rintro e w' ⟨rfl, ⟨nd, rfl⟩⟩; refine ⟨_, rfl, ?_⟩) | (go_at_call 22; (with_reducible refine (stockadelaw01_alu.calls 3 a0 a1 ji11 t245 _ A18.out).mono ?_); rintro e w' ⟨rfl, ⟨nd, rfl⟩⟩))
            go_meet
            case rel => exact ⟨_, ((t242 != t245)), (by first | rfl | (simp; done) | (simp [*]; done)), H', ⟨by first | omega | exact Nat.le_refl _⟩, by repeat (first | exact Drawn0.refl _ | apply Drawn0.step)⟩
          · rw [if_neg c17] at H
            have c17b0 : (t241 == t244) = false := beq_eq_false_iff_ne.mpr c17
            have c17b1 : (t241 != t244) = true := bne_iff_ne.mpr c17
            (first | rw [c17b0] | (simp only [i64_w, i32_w]; rw [c17b0]) | skip)
            have H' := Aside0.mk H
            clear H
            go_wp2_with (first | ((with_reducible refine gate_callee (f := 22) rfl ?_); refine goesL_ (some 39) rfl rfl Try.func22 (by kernel_rfl) rfl #[.int .i64 2, .bool a0, .int .u64 a1, .int .u64 ji11] rfl (by (try simp only [List.map_toArray, List.map_cons, List.map_nil]); first | done | (simp only [hji11]; rfl) | rfl | (simp only [List.length_drop, List.length_take]; rfl)) ?_; (with_reducible refine (stockadelaw01_alu.calls 2 a0 a1 ji11 t244 _ A16.out).mono ?_); rintro e w' ⟨rfl, ⟨nd, rfl⟩⟩; refine ⟨_, rfl, ?_⟩))
            go_meet
            case rel => exact ⟨_, (true), (by first | rfl | (simp; done) | (simp [*]; done)), H', ⟨by first | omega | exact Nat.le_refl _⟩, by repeat (first | exact Drawn0.refl _ | apply Drawn0.step)⟩
        case rest =>
          clear HC15
          try clear c1
          try clear c2
          try clear p2
          try clear c5
          try clear c8
          try clear c8b0
          try clear c8b1
          try clear c10
          try clear c10b0
          try clear c10b1
          try clear c15
          try clear c17
          try clear c17b0
          try clear c17b1
          obtain ⟨kq, x48_14, rfl, HA, HJ14, ⟨mc14, rfl⟩⟩ := hcut
          cases kq with
          | zero => exact absurd HA.out (by simp [stockadelaw01_WordShifts.j0])
          | succ kj14 =>
            have H := HA.out
            clear HA
            simp only [stockadelaw01_WordShifts.j0] at H
            by_cases c19 : x48_14 = true
            · subst c19
              have H1 : (some false) = some r := by rw [if_pos rfl] at H; exact H
              clear H
              have H := H1
              clear H1
              obtain rfl := Option.some.inj H
              go_wp2
              go_ret
              exact ⟨by first | rfl | (simp; done) | (simp only [← hji9, ← hji11] <;> (first | rfl | simp)) | (simp [*]; done), by repeat (first | exact Drawn0.refl _ | apply Drawn0.step)⟩
            · replace c19 := Bool.eq_false_iff.mpr c19
              subst c19
              have H1 : ((stockadelaw01_fit.f a0 a1).bind fun t246 => ((stockadelaw01_size.f a0).bind fun t247 => (if 0 ≤ (IntKind.u64.wrap (t247 - 1)) then (if (shr .u64 t246 (IntKind.u64.wrap (t247 - 1))) = 0 then (some (t243 == t242)) else ((stockadelaw01_fit.f a0 (Go.bits .xor .u64 18446744073709551615 a1)).bind fun t248 => (if 0 ≤ ji9 then ((stockadelaw01_fit.f a0 (Go.bits .xor .u64 18446744073709551615 (shr .u64 t248 ji9))).bind fun t249 => (some (t243 == t249))) else (none)))) else (none)))) = some r := by rw [if_neg (show ¬ (false = true) by decide)] at H; exact H
              clear H
              have H := H1
              clear H1
              replace H := Option.bind_eq_some_iff.mp H
              obtain ⟨t246, A200, H⟩ := H
              replace H : ((stockadelaw01_size.f a0).bind fun t247 => (if 0 ≤ (IntKind.u64.wrap (t247 - 1)) then (if (shr .u64 t246 (IntKind.u64.wrap (t247 - 1))) = 0 then (some (t243 == t242)) else ((stockadelaw01_fit.f a0 (Go.bits .xor .u64 18446744073709551615 a1)).bind fun t248 => (if 0 ≤ ji9 then ((stockadelaw01_fit.f a0 (Go.bits .xor .u64 18446744073709551615 (shr .u64 t248 ji9))).bind fun t249 => (some (t243 == t249))) else (none)))) else (none))) = some r := H
              have A20 := Aside0.mk A200
              clear A200
              replace H := Option.bind_eq_some_iff.mp H
              obtain ⟨t247, A210, H⟩ := H
              replace H : (if 0 ≤ (IntKind.u64.wrap (t247 - 1)) then (if (shr .u64 t246 (IntKind.u64.wrap (t247 - 1))) = 0 then (some (t243 == t242)) else ((stockadelaw01_fit.f a0 (Go.bits .xor .u64 18446744073709551615 a1)).bind fun t248 => (if 0 ≤ ji9 then ((stockadelaw01_fit.f a0 (Go.bits .xor .u64 18446744073709551615 (shr .u64 t248 ji9))).bind fun t249 => (some (t243 == t249))) else (none)))) else (none)) = some r := H
              have A21 := Aside0.mk A210
              clear A210
              obtain ⟨ji22, hji22⟩ : ∃ j_ : Int, (IntKind.u64.wrap (t247 - 1)) = j_ := ⟨_, rfl⟩
              replace H : (if 0 ≤ (ji22) then (if (shr .u64 t246 (ji22)) = 0 then (some (t243 == t242)) else ((stockadelaw01_fit.f a0 (Go.bits .xor .u64 18446744073709551615 a1)).bind fun t248 => (if 0 ≤ ji9 then ((stockadelaw01_fit.f a0 (Go.bits .xor .u64 18446744073709551615 (shr .u64 t248 ji9))).bind fun t249 => (some (t243 == t249))) else (none)))) else (none)) = some r := by first | (rw [hji22] at H; exact H) | (simp only [hji22] at H ⊢; exact H)
              (try rw [hji22] at A20)
              (try rw [hji22] at A21)
              by_cases c23 : 0 ≤ (ji22)
              · rw [if_pos c23] at H
                have c23b0 := eq_true c23
                have c23b1 : decide (0 ≤ (ji22)) = true := decide_eq_true c23
                clear c23
                obtain ⟨ji24, hji24⟩ : ∃ j_ : Int, (shr .u64 t246 (ji22)) = j_ := ⟨_, rfl⟩
                replace H : (if (ji24) = 0 then (some (t243 == t242)) else ((stockadelaw01_fit.f a0 (Go.bits .xor .u64 18446744073709551615 a1)).bind fun t248 => (if 0 ≤ ji9 then ((stockadelaw01_fit.f a0 (Go.bits .xor .u64 18446744073709551615 (shr .u64 t248 ji9))).bind fun t249 => (some (t243 == t249))) else (none)))) = some r := by first | (rw [hji24] at H; exact H) | (simp only [hji24] at H ⊢; exact H)
                (try rw [hji24] at A20)
                (try rw [hji24] at A21)
                have hji24_ : (t246 / 2 ^ min (ji22).toNat 64) = ji24 := hji24
                have hji24z : (ji22) ≤ 64 → (t246 / 2 ^ (ji22).toNat) = ji24 := shr_small hji24
                by_cases c25 : (ji24) = 0
                · rw [if_pos c25] at H
                  have c25b0 : ((ji24) == 0) = true := beq_iff_eq.mpr c25
                  have c25b1 : ((ji24) != 0) = false := bne_eq_false_iff_eq.mpr c25
                  clear c25
                  obtain rfl := Option.some.inj H
                  go_wp2_with (first | ((with_reducible refine gate_callee (f := 23) rfl ?_); refine goesL_ (some 51) rfl rfl Try.func23 (by kernel_rfl) rfl #[.bool a0, .int .u64 a1] rfl (by (try simp only [List.map_toArray, List.map_cons, List.map_nil]); first | done | rfl | (simp only [List.length_drop, List.length_take]; rfl)) ?_; (with_reducible refine (stockadelaw01_fit.calls a0 a1 t246 _ A20.out).mono ?_); rintro e w' ⟨rfl, ⟨nd, rfl⟩⟩; refine ⟨_, rfl, ?_⟩) | ((with_reducible refine gate_callee (f := 24) rfl ?_); refine goesL_ (some 53) rfl rfl Try.func24 (by kernel_rfl) rfl #[.bool a0] rfl (by (try simp only [List.map_toArray, List.map_cons, List.map_nil]); first | done | rfl | (simp only [List.length_drop, List.length_take]; rfl)) ?_; (with_reducible refine (stockadelaw01_size.calls a0 t247 _ A21.out).mono ?_); rintro e w' ⟨rfl, ⟨nd, rfl⟩⟩; refine ⟨_, rfl, ?_⟩))
                  go_ret
                  exact ⟨by first | rfl | (simp; done) | (simp only [← hji9, ← hji11, ← hji22, ← hji24] <;> (first | rfl | simp)) | (simp [*]; done), by repeat (first | exact Drawn0.refl _ | apply Drawn0.step)⟩
                · rw [if_neg c25] at H
                  have c25b0 : ((ji24) == 0) = false := beq_eq_false_iff_ne.mpr c25
                  have c25b1 : ((ji24) != 0) = true := bne_iff_ne.mpr c25
                  replace H := Option.bind_eq_some_iff.mp H
                  obtain ⟨t248, A260, H⟩ := H
                  replace H : (if 0 ≤ ji9 then ((stockadelaw01_fit.f a0 (Go.bits .xor .u64 18446744073709551615 (shr .u64 t248 ji9))).bind fun t249 => (some (t243 == t249))) else (none)) = some r := H
                  have A26 := Aside0.mk A260
                  clear A260
                  by_cases c27 : 0 ≤ ji9
                  · rw [if_pos c27] at H
                    have c27b0 := eq_true c27
                    have c27b1 : decide (0 ≤ ji9) = true := decide_eq_true c27
                    clear c27
                    obtain ⟨ji28, hji28⟩ : ∃ j_ : Int, (shr .u64 t248 ji9) = j_ := ⟨_, rfl⟩
                    replace H : ((stockadelaw01_fit.f a0 (Go.bits .xor .u64 18446744073709551615 (ji28))).bind fun t249 => (some (t243 == t249))) = some r := by first | (rw [hji28] at H; exact H) | (simp only [hji28] at H ⊢; exact H)
                    (try rw [hji28] at A20)
                    (try rw [hji28] at A21)
                    (try rw [hji28] at A26)
                    have hji28_ : (t248 / 2 ^ min ji9.toNat 64) = ji28 := hji28
                    have hji28z : ji9 ≤ 64 → (t248 / 2 ^ ji9.toNat) = ji28 := shr_small hji28
                    replace H := Option.bind_eq_some_iff.mp H
                    obtain ⟨t249, A290, H⟩ := H
                    replace H : (some (t243 == t249)) = some r := H
                    have A29 := Aside0.mk A290
                    clear A290
                    obtain rfl := Option.some.inj H
                    go_wp2_with (first | ((with_reducible refine gate_callee (f := 23) rfl ?_); refine goesL_ (some 51) rfl rfl Try.func23 (by kernel_rfl) rfl #[.bool a0, .int .u64 a1] rfl (by (try simp only [List.map_toArray, List.map_cons, List.map_nil]); first | done | rfl | (simp only [List.length_drop, List.length_take]; rfl)) ?_; (with_reducible refine (stockadelaw01_fit.calls a0 a1 t246 _ A20.out).mono ?_); rintro e w' ⟨rfl, ⟨nd, rfl⟩⟩; refine ⟨_, rfl, ?_⟩) | ((with_reducible refine gate_callee (f := 24) rfl ?_); refine goesL_ (some 53) rfl rfl Try.func24 (by kernel_rfl) rfl #[.bool a0] rfl (by (try simp only [List.map_toArray, List.map_cons, List.map_nil]); first | done | rfl | (simp only [List.length_drop, List.length_take]; rfl)) ?_; (with_reducible refine (stockadelaw01_size.calls a0 t247 _ A21.out).mono ?_); rintro e w' ⟨rfl, ⟨nd, rfl⟩⟩; refine ⟨_, rfl, ?_⟩) | ((with_reducible refine gate_callee (f := 23) rfl ?_); refine goesL_ (some 63) rfl rfl Try.func23 (by kernel_rfl) rfl #[.bool a0, .int .u64 (Go.bits .xor .u64 18446744073709551615 a1)] rfl (by (try simp only [List.map_toArray, List.map_cons, List.map_nil]); first | done | rfl | (simp only [List.length_drop, List.length_take]; rfl)) ?_; (with_reducible refine (stockadelaw01_fit.calls a0 (Go.bits .xor .u64 18446744073709551615 a1) t248 _ A26.out).mono ?_); rintro e w' ⟨rfl, ⟨nd, rfl⟩⟩; refine ⟨_, rfl, ?_⟩) | ((with_reducible refine gate_callee (f := 23) rfl ?_); refine goesL_ (some 70) rfl rfl Try.func23 (by kernel_rfl) rfl #[.bool a0, .int .u64 (Go.bits .xor .u64 18446744073709551615 (ji28))] rfl (by (try simp only [List.map_toArray, List.map_cons, List.map_nil]); first | done | (simp only [hji28]; rfl) | rfl | (simp only [List.length_drop, List.length_take]; rfl)) ?_; (with_reducible refine (stockadelaw01_fit.calls a0 (Go.bits .xor .u64 18446744073709551615 (ji28)) t249 _ A29.out).mono ?_); rintro e w' ⟨rfl, ⟨nd, rfl⟩⟩; refine ⟨_, rfl, ?_⟩))
                    go_ret
                    exact ⟨by first | rfl | (simp; done) | (simp only [← hji9, ← hji11, ← hji22, ← hji24, ← hji28] <;> (first | rfl | simp)) | (simp [*]; done), by repeat (first | exact Drawn0.refl _ | apply Drawn0.step)⟩
                  · rw [if_neg c27] at H
                    exact absurd H (by simp)
              · rw [if_neg c23] at H
                exact absurd H (by simp)
      · rw [if_neg c10] at H
        exact absurd H (by simp)
  · replace c5 := Bool.eq_false_iff.mpr c5
    subst c5
    have H1 : (some false) = some r := by rw [if_neg (show ¬ (false = true) by decide)] at H; exact H
    clear H
    have H := H1
    clear H1
    obtain rfl := Option.some.inj H
    go_enter Try.func8, Try.ntmps8
    go_wp2_with (first | ((with_reducible refine gate_callee (f := 15) rfl ?_); refine goesL_ (some 13) rfl rfl Try.func15 (by kernel_rfl) rfl #[] rfl (by (try simp only [List.map_toArray, List.map_cons, List.map_nil]); first | done | rfl | (simp only [List.length_drop, List.length_take]; rfl)) ?_; (with_reducible refine (stockadelaw01_awake.calls k  false _ A4.out).mono ?_); rintro e w' ⟨rfl, ⟨nd, rfl⟩⟩; refine ⟨_, rfl, ?_⟩))
    go_ret
    exact ⟨by first | rfl | (simp; done) | (simp [*]; done), by repeat (first | exact Drawn0.refl _ | apply Drawn0.step)⟩

/-! ### stockadelaw01_WordHalves: function 9 -/
mutual
def stockadelaw01_WordHalves.j0 : Nat → Int → Int → Int → Int → Int → Bool → Option (Bool)
  | 0, _, _, _, _, _, _ => none
  | k + 1, x7, x8, x9, x10, x11, x67 => if x67 = true then (some false) else (if x11 = 0 then (if x7 = 3 then (stockadelaw01_WordHalves.j1 k x7 x8 x9 x10 true) else (if x7 = 9 then (stockadelaw01_WordHalves.j1 k x7 x8 x9 x10 true) else (if x7 = 6 then (stockadelaw01_WordHalves.j1 k x7 x8 x9 x10 true) else (if x7 = 7 then (stockadelaw01_WordHalves.j1 k x7 x8 x9 x10 true) else (stockadelaw01_WordHalves.j1 k x7 x8 x9 x10 (x7 == 12)))))) else (stockadelaw01_WordHalves.j1 k x7 x8 x9 x10 true))
def stockadelaw01_WordHalves.j1 : Nat → Int → Int → Int → Int → Bool → Option (Bool)
  | 0, _, _, _, _, _ => none
  | k + 1, x7, x8, x9, x10, x89 => if x89 = true then (some true) else ((stockadelaw01_alu.f x7 true x8 x9).bind fun t258 => ((stockadelaw01_half.f t258).bind fun t259 => (some (x10 == t259))))
end
def stockadelaw01_WordHalves.f (k : Nat) (a0_0 : Int) (a0_1 : Bool) (a0_2 : Int) (a0_3 : Int) (a1 : Int) (a2 : Int) : Option (Bool) := (stockadelaw01_awake.f k).bind fun t251 => (if t251 = true then ((word_Alu.f a0_0 false a0_2 a0_3).bind fun bt252 => ((stockadelaw01_half.f a0_2).bind fun t254 => ((stockadelaw01_half.f a0_3).bind fun t255 => ((word_Alu.f a0_0 false (Go.bits .or .u64 t254 (IntKind.u64.wrap (a1 * 4294967296))) (Go.bits .or .u64 t255 (IntKind.u64.wrap (a2 * 4294967296)))).bind fun bt256 => (if bt252.1 = bt256.1 then (if bt252.2 = bt256.2 then (if bt252.1 ≥ 4294967296 then (stockadelaw01_WordHalves.j0 k a0_0 a0_2 a0_3 bt252.1 bt252.2 true) else (if bt252.2 = 0 then (stockadelaw01_WordHalves.j0 k a0_0 a0_2 a0_3 bt252.1 bt252.2 false) else (if bt252.2 = 20 then (stockadelaw01_WordHalves.j0 k a0_0 a0_2 a0_3 bt252.1 bt252.2 (bt252.1 != 0)) else (stockadelaw01_WordHalves.j0 k a0_0 a0_2 a0_3 bt252.1 bt252.2 true)))) else (stockadelaw01_WordHalves.j0 k a0_0 a0_2 a0_3 bt252.1 bt252.2 true)) else (stockadelaw01_WordHalves.j0 k a0_0 a0_2 a0_3 bt252.1 bt252.2 true)))))) else (some false))
theorem stockadelaw01_WordHalves.mono_l : ∀ k, (∀ y0 y1 y2 y3 y4 y5, LeO (stockadelaw01_WordHalves.j0 k y0 y1 y2 y3 y4 y5) (stockadelaw01_WordHalves.j0 (k + 1) y0 y1 y2 y3 y4 y5)) ∧ (∀ y0 y1 y2 y3 y4, LeO (stockadelaw01_WordHalves.j1 k y0 y1 y2 y3 y4) (stockadelaw01_WordHalves.j1 (k + 1) y0 y1 y2 y3 y4))
  | 0 => ⟨fun _ _ _ _ _ _ r h => by simp [stockadelaw01_WordHalves.j0] at h, fun _ _ _ _ _ r h => by simp [stockadelaw01_WordHalves.j1] at h⟩
  | k + 1 => by
    obtain ⟨ih0, ih1⟩ := stockadelaw01_WordHalves.mono_l k
    refine ⟨?_, ?_⟩
    · intro y0 y1 y2 y3 y4 y5
      unfold stockadelaw01_WordHalves.j0
      repeat' first
      | (with_reducible exact ih0 _ _ _ _ _ _)
      | (with_reducible exact ih1 _ _ _ _ _)
      | (with_reducible exact stockadelaw01_awake.mono _)
      | (with_reducible exact LeO.refl _)
      | (with_reducible exact LeO.none _)
      | (with_reducible refine LeO.ite ?_ ?_)
      | (with_reducible refine LeO.bind ?_ (fun _ => ?_))
      | exact ih0 _ _ _ _ _ _
      | exact ih1 _ _ _ _ _
      | exact stockadelaw01_awake.mono _
      | exact LeO.none _
      | refine LeO.ite ?_ ?_
      | refine LeO.bind ?_ (fun _ => ?_)
    · intro y0 y1 y2 y3 y4
      unfold stockadelaw01_WordHalves.j1
      repeat' first
      | (with_reducible exact ih0 _ _ _ _ _ _)
      | (with_reducible exact ih1 _ _ _ _ _)
      | (with_reducible exact stockadelaw01_awake.mono _)
      | (with_reducible exact LeO.refl _)
      | (with_reducible exact LeO.none _)
      | (with_reducible refine LeO.ite ?_ ?_)
      | (with_reducible refine LeO.bind ?_ (fun _ => ?_))
      | exact ih0 _ _ _ _ _ _
      | exact ih1 _ _ _ _ _
      | exact stockadelaw01_awake.mono _
      | exact LeO.none _
      | refine LeO.ite ?_ ?_
      | refine LeO.bind ?_ (fun _ => ?_)
theorem stockadelaw01_WordHalves.mono : ∀ a0 a1 a2 a3 a4 a5 k, LeO (stockadelaw01_WordHalves.f k a0 a1 a2 a3 a4 a5) (stockadelaw01_WordHalves.f (k + 1) a0 a1 a2 a3 a4 a5) := by
  intro a0 a1 a2 a3 a4 a5 k
  obtain ⟨ih0, ih1⟩ := stockadelaw01_WordHalves.mono_l k
  unfold stockadelaw01_WordHalves.f
  repeat' first
      | (with_reducible exact ih0 _ _ _ _ _ _)
      | (with_reducible exact ih1 _ _ _ _ _)
      | (with_reducible exact stockadelaw01_awake.mono _)
      | (with_reducible exact LeO.refl _)
      | (with_reducible exact LeO.none _)
      | (with_reducible refine LeO.ite ?_ ?_)
      | (with_reducible refine LeO.bind ?_ (fun _ => ?_))
      | exact ih0 _ _ _ _ _ _
      | exact ih1 _ _ _ _ _
      | exact stockadelaw01_awake.mono _
      | exact LeO.none _
      | refine LeO.ite ?_ ?_
      | refine LeO.bind ?_ (fun _ => ?_)
set_option maxHeartbeats 8000000 in
set_option maxRecDepth 100000 in
theorem stockadelaw01_WordHalves.calls (k : Nat) (a0_0 : Int) (a0_1 : Bool) (a0_2 : Int) (a0_3 : Int) (a1 : Int) (a2 : Int) (r : Bool) (w : World) (h : stockadelaw01_WordHalves.f k a0_0 a0_1 a0_2 a0_3 a1 a2 = some r) :
    Calls Try.prog 9 #[.agg #[.int .i64 a0_0, .bool a0_1, .int .u64 a0_2, .int .u64 a0_3], .int .u64 a1, .int .u64 a2] w fun e w' => e = .returned (.bool r) ∧ Below w.heap.size w w' := by
  have hu24 := Try.underlying24
  have HB := Aside0.mk (Below.refl w.heap.size w)
  have H : ((stockadelaw01_awake.f k).bind fun t251 => (if t251 = true then ((word_Alu.f a0_0 false a0_2 a0_3).bind fun bt252 => ((stockadelaw01_half.f a0_2).bind fun t254 => ((stockadelaw01_half.f a0_3).bind fun t255 => ((word_Alu.f a0_0 false (Go.bits .or .u64 t254 (IntKind.u64.wrap (a1 * 4294967296))) (Go.bits .or .u64 t255 (IntKind.u64.wrap (a2 * 4294967296)))).bind fun bt256 => (if bt252.1 = bt256.1 then (if bt252.2 = bt256.2 then (if bt252.1 ≥ 4294967296 then (stockadelaw01_WordHalves.j0 k a0_0 a0_2 a0_3 bt252.1 bt252.2 true) else (if bt252.2 = 0 then (stockadelaw01_WordHalves.j0 k a0_0 a0_2 a0_3 bt252.1 bt252.2 false) else (if bt252.2 = 20 then (stockadelaw01_WordHalves.j0 k a0_0 a0_2 a0_3 bt252.1 bt252.2 (bt252.1 != 0)) else (stockadelaw01_WordHalves.j0 k a0_0 a0_2 a0_3 bt252.1 bt252.2 true)))) else (stockadelaw01_WordHalves.j0 k a0_0 a0_2 a0_3 bt252.1 bt252.2 true)) else (stockadelaw01_WordHalves.j0 k a0_0 a0_2 a0_3 bt252.1 bt252.2 true)))))) else (some false))) = some r := h
  clear h
  replace H := Option.bind_eq_some_iff.mp H
  obtain ⟨t251, A40, H⟩ := H
  replace H : (if t251 = true then ((word_Alu.f a0_0 false a0_2 a0_3).bind fun bt252 => ((stockadelaw01_half.f a0_2).bind fun t254 => ((stockadelaw01_half.f a0_3).bind fun t255 => ((word_Alu.f a0_0 false (Go.bits .or .u64 t254 (IntKind.u64.wrap (a1 * 4294967296))) (Go.bits .or .u64 t255 (IntKind.u64.wrap (a2 * 4294967296)))).bind fun bt256 => (if bt252.1 = bt256.1 then (if bt252.2 = bt256.2 then (if bt252.1 ≥ 4294967296 then (stockadelaw01_WordHalves.j0 k a0_0 a0_2 a0_3 bt252.1 bt252.2 true) else (if bt252.2 = 0 then (stockadelaw01_WordHalves.j0 k a0_0 a0_2 a0_3 bt252.1 bt252.2 false) else (if bt252.2 = 20 then (stockadelaw01_WordHalves.j0 k a0_0 a0_2 a0_3 bt252.1 bt252.2 (bt252.1 != 0)) else (stockadelaw01_WordHalves.j0 k a0_0 a0_2 a0_3 bt252.1 bt252.2 true)))) else (stockadelaw01_WordHalves.j0 k a0_0 a0_2 a0_3 bt252.1 bt252.2 true)) else (stockadelaw01_WordHalves.j0 k a0_0 a0_2 a0_3 bt252.1 bt252.2 true)))))) else (some false)) = some r := H
  have A4 := Aside0.mk A40
  clear A40
  by_cases c5 : t251 = true
  · subst c5
    have H1 : ((word_Alu.f a0_0 false a0_2 a0_3).bind fun bt252 => ((stockadelaw01_half.f a0_2).bind fun t254 => ((stockadelaw01_half.f a0_3).bind fun t255 => ((word_Alu.f a0_0 false (Go.bits .or .u64 t254 (IntKind.u64.wrap (a1 * 4294967296))) (Go.bits .or .u64 t255 (IntKind.u64.wrap (a2 * 4294967296)))).bind fun bt256 => (if bt252.1 = bt256.1 then (if bt252.2 = bt256.2 then (if bt252.1 ≥ 4294967296 then (stockadelaw01_WordHalves.j0 k a0_0 a0_2 a0_3 bt252.1 bt252.2 true) else (if bt252.2 = 0 then (stockadelaw01_WordHalves.j0 k a0_0 a0_2 a0_3 bt252.1 bt252.2 false) else (if bt252.2 = 20 then (stockadelaw01_WordHalves.j0 k a0_0 a0_2 a0_3 bt252.1 bt252.2 (bt252.1 != 0)) else (stockadelaw01_WordHalves.j0 k a0_0 a0_2 a0_3 bt252.1 bt252.2 true)))) else (stockadelaw01_WordHalves.j0 k a0_0 a0_2 a0_3 bt252.1 bt252.2 true)) else (stockadelaw01_WordHalves.j0 k a0_0 a0_2 a0_3 bt252.1 bt252.2 true)))))) = some r := by rw [if_pos rfl] at H; exact H
    clear H
    have H := H1
    clear H1
    replace H := Option.bind_eq_some_iff.mp H
    obtain ⟨⟨t252, t253⟩, A60, H⟩ := H
    replace H : ((stockadelaw01_half.f a0_2).bind fun t254 => ((stockadelaw01_half.f a0_3).bind fun t255 => ((word_Alu.f a0_0 false (Go.bits .or .u64 t254 (IntKind.u64.wrap (a1 * 4294967296))) (Go.bits .or .u64 t255 (IntKind.u64.wrap (a2 * 4294967296)))).bind fun bt256 => (if t252 = bt256.1 then (if t253 = bt256.2 then (if t252 ≥ 4294967296 then (stockadelaw01_WordHalves.j0 k a0_0 a0_2 a0_3 t252 t253 true) else (if t253 = 0 then (stockadelaw01_WordHalves.j0 k a0_0 a0_2 a0_3 t252 t253 false) else (if t253 = 20 then (stockadelaw01_WordHalves.j0 k a0_0 a0_2 a0_3 t252 t253 (t252 != 0)) else (stockadelaw01_WordHalves.j0 k a0_0 a0_2 a0_3 t252 t253 true)))) else (stockadelaw01_WordHalves.j0 k a0_0 a0_2 a0_3 t252 t253 true)) else (stockadelaw01_WordHalves.j0 k a0_0 a0_2 a0_3 t252 t253 true))))) = some r := H
    have A6 := Aside0.mk A60
    clear A60
    replace H := Option.bind_eq_some_iff.mp H
    obtain ⟨t254, A70, H⟩ := H
    replace H : ((stockadelaw01_half.f a0_3).bind fun t255 => ((word_Alu.f a0_0 false (Go.bits .or .u64 t254 (IntKind.u64.wrap (a1 * 4294967296))) (Go.bits .or .u64 t255 (IntKind.u64.wrap (a2 * 4294967296)))).bind fun bt256 => (if t252 = bt256.1 then (if t253 = bt256.2 then (if t252 ≥ 4294967296 then (stockadelaw01_WordHalves.j0 k a0_0 a0_2 a0_3 t252 t253 true) else (if t253 = 0 then (stockadelaw01_WordHalves.j0 k a0_0 a0_2 a0_3 t252 t253 false) else (if t253 = 20 then (stockadelaw01_WordHalves.j0 k a0_0 a0_2 a0_3 t252 t253 (t252 != 0)) else (stockadelaw01_WordHalves.j0 k a0_0 a0_2 a0_3 t252 t253 true)))) else (stockadelaw01_WordHalves.j0 k a0_0 a0_2 a0_3 t252 t253 true)) else (stockadelaw01_WordHalves.j0 k a0_0 a0_2 a0_3 t252 t253 true)))) = some r := H
    have A7 := Aside0.mk A70
    clear A70
    replace H := Option.bind_eq_some_iff.mp H
    obtain ⟨t255, A80, H⟩ := H
    replace H : ((word_Alu.f a0_0 false (Go.bits .or .u64 t254 (IntKind.u64.wrap (a1 * 4294967296))) (Go.bits .or .u64 t255 (IntKind.u64.wrap (a2 * 4294967296)))).bind fun bt256 => (if t252 = bt256.1 then (if t253 = bt256.2 then (if t252 ≥ 4294967296 then (stockadelaw01_WordHalves.j0 k a0_0 a0_2 a0_3 t252 t253 true) else (if t253 = 0 then (stockadelaw01_WordHalves.j0 k a0_0 a0_2 a0_3 t252 t253 false) else (if t253 = 20 then (stockadelaw01_WordHalves.j0 k a0_0 a0_2 a0_3 t252 t253 (t252 != 0)) else (stockadelaw01_WordHalves.j0 k a0_0 a0_2 a0_3 t252 t253 true)))) else (stockadelaw01_WordHalves.j0 k a0_0 a0_2 a0_3 t252 t253 true)) else (stockadelaw01_WordHalves.j0 k a0_0 a0_2 a0_3 t252 t253 true))) = some r := H
    have A8 := Aside0.mk A80
    clear A80
    replace H := Option.bind_eq_some_iff.mp H
    obtain ⟨⟨t256, t257⟩, A90, H⟩ := H
    replace H : (if t252 = t256 then (if t253 = t257 then (if t252 ≥ 4294967296 then (stockadelaw01_WordHalves.j0 k a0_0 a0_2 a0_3 t252 t253 true) else (if t253 = 0 then (stockadelaw01_WordHalves.j0 k a0_0 a0_2 a0_3 t252 t253 false) else (if t253 = 20 then (stockadelaw01_WordHalves.j0 k a0_0 a0_2 a0_3 t252 t253 (t252 != 0)) else (stockadelaw01_WordHalves.j0 k a0_0 a0_2 a0_3 t252 t253 true)))) else (stockadelaw01_WordHalves.j0 k a0_0 a0_2 a0_3 t252 t253 true)) else (stockadelaw01_WordHalves.j0 k a0_0 a0_2 a0_3 t252 t253 true)) = some r := H
    have A9 := Aside0.mk A90
    clear A90
    have HC10 := Aside0.mk H
    clear H
    go_enter Try.func9, Try.ntmps9
    go_upto_region 6 with (first | ((with_reducible refine gate_dst (N := 3) rfl ?_); refine box_event ?hg (N := 3) ?hd (cs := #[.int .i64 a0_0, .bool a0_1, .int .u64 a0_2, .int .u64 a0_3]) (t := 24) ?hr ?_; (case hd => rfl); (case hg => rfl); (case hr => first | (go_simp; done) | (go_simp; rfl)); intro gb250 hg w11 hbox hb; have n0_ := Aside0.mk (below_step (by repeat (first | (with_reducible first | exact HB.out | apply below_alloc | apply pw_below_drewN | apply below_drew1) | exact HB.out)) hb); have n1_ := Aside0.mk (hbox); have n2_ := Aside0.mk ((by rw [hg]; exact (below_size (by repeat (first | (with_reducible first | exact HB.out | apply below_alloc | apply pw_below_drewN | apply below_drew1) | exact HB.out))) : w.heap.size ≤ gb250)); have n3_ := Aside0.mk ((by rw [hg]; exact (below_size (by repeat (first | (with_reducible first | exact HB.out | apply below_alloc | apply pw_below_drewN | apply below_drew1) | exact HB.out))) : w.heap.size ≤ gb250)); clear HB; have HB := n0_; have BK250 := n1_; have GW250 := n2_; have GE250 := n3_; clear n0_ n1_ n2_ n3_; clear hb hbox hg; have hcz12_0 : w11.cell? ⟨gb250, 0, none⟩ = some (.int .i64 a0_0) := (blk_cell BK250.out 0).trans rfl; have hcz12_1 : w11.cell? ⟨gb250, 1, none⟩ = some (.bool a0_1) := (blk_cell BK250.out 1).trans rfl; have hcz12_2 : w11.cell? ⟨gb250, 2, none⟩ = some (.int .u64 a0_2) := (blk_cell BK250.out 2).trans rfl; have hcz12_3 : w11.cell? ⟨gb250, 3, none⟩ = some (.int .u64 a0_3) := (blk_cell BK250.out 3).trans rfl; have hfz12_0 := blk_frozen BK250.out 0; have hfz12_1 := blk_frozen BK250.out 1; have hfz12_2 := blk_frozen BK250.out 2; have hfz12_3 := blk_frozen BK250.out 3) | (go_at_call 15; (with_reducible refine (stockadelaw01_awake.calls k  true _ A4.out).mono ?_); rintro e w' ⟨rfl, ⟨nd, rfl⟩⟩; (try first | exact ⟨rfl, _, World.drewN_drewN _ _ _⟩ | exact ⟨rfl, _, Eq.trans (World.drewN_drewN _ _ _) (congrArg (World.drewN _) (Nat.add_assoc _ _ _))⟩)) | (go_at_call 13; (with_reducible refine (word_Alu.calls a0_0 false a0_2 a0_3 t252 t253 _ A6.out).mono ?_); rintro e w' ⟨rfl, ⟨nd, rfl⟩⟩; (try first | exact ⟨rfl, _, World.drewN_drewN _ _ _⟩ | exact ⟨rfl, _, Eq.trans (World.drewN_drewN _ _ _) (congrArg (World.drewN _) (Nat.add_assoc _ _ _))⟩)) | (go_at_call 25; (with_reducible refine (stockadelaw01_half.calls a0_2 t254 _ A7.out).mono ?_); rintro e w' ⟨rfl, ⟨nd, rfl⟩⟩; (try first | exact ⟨rfl, _, World.drewN_drewN _ _ _⟩ | exact ⟨rfl, _, Eq.trans (World.drewN_drewN _ _ _) (congrArg (World.drewN _) (Nat.add_assoc _ _ _))⟩)) | (go_at_call 25; (with_reducible refine (stockadelaw01_half.calls a0_3 t255 _ A8.out).mono ?_); rintro e w' ⟨rfl, ⟨nd, rfl⟩⟩; (try first | exact ⟨rfl, _, World.drewN_drewN _ _ _⟩ | exact ⟨rfl, _, Eq.trans (World.drewN_drewN _ _ _) (congrArg (World.drewN _) (Nat.add_assoc _ _ _))⟩)) | (go_at_call 13; (with_reducible refine (word_Alu.calls a0_0 false (Go.bits .or .u64 t254 (IntKind.u64.wrap (a1 * 4294967296))) (Go.bits .or .u64 t255 (IntKind.u64.wrap (a2 * 4294967296))) t256 t257 _ A9.out).mono ?_); rintro e w' ⟨rfl, ⟨nd, rfl⟩⟩; (try first | exact ⟨rfl, _, World.drewN_drewN _ _ _⟩ | exact ⟨rfl, _, Eq.trans (World.drewN_drewN _ _ _) (congrArg (World.drewN _) (Nat.add_assoc _ _ _))⟩)))
    repeat (go_quiet (first | ((with_reducible refine gate_dst (N := 3) rfl ?_); refine box_event ?hg (N := 3) ?hd (cs := #[.int .i64 a0_0, .bool a0_1, .int .u64 a0_2, .int .u64 a0_3]) (t := 24) ?hr ?_; (case hd => rfl); (case hg => rfl); (case hr => first | (go_simp; done) | (go_simp; rfl)); intro gb250 hg w11 hbox hb; have n0_ := Aside0.mk (below_step (by repeat (first | (with_reducible first | exact HB.out | apply below_alloc | apply pw_below_drewN | apply below_drew1) | exact HB.out)) hb); have n1_ := Aside0.mk (hbox); have n2_ := Aside0.mk ((by rw [hg]; exact (below_size (by repeat (first | (with_reducible first | exact HB.out | apply below_alloc | apply pw_below_drewN | apply below_drew1) | exact HB.out))) : w.heap.size ≤ gb250)); have n3_ := Aside0.mk ((by rw [hg]; exact (below_size (by repeat (first | (with_reducible first | exact HB.out | apply below_alloc | apply pw_below_drewN | apply below_drew1) | exact HB.out))) : w.heap.size ≤ gb250)); clear HB; have HB := n0_; have BK250 := n1_; have GW250 := n2_; have GE250 := n3_; clear n0_ n1_ n2_ n3_; clear hb hbox hg; have hcz12_0 : w11.cell? ⟨gb250, 0, none⟩ = some (.int .i64 a0_0) := (blk_cell BK250.out 0).trans rfl; have hcz12_1 : w11.cell? ⟨gb250, 1, none⟩ = some (.bool a0_1) := (blk_cell BK250.out 1).trans rfl; have hcz12_2 : w11.cell? ⟨gb250, 2, none⟩ = some (.int .u64 a0_2) := (blk_cell BK250.out 2).trans rfl; have hcz12_3 : w11.cell? ⟨gb250, 3, none⟩ = some (.int .u64 a0_3) := (blk_cell BK250.out 3).trans rfl; have hfz12_0 := blk_frozen BK250.out 0; have hfz12_1 := blk_frozen BK250.out 1; have hfz12_2 := blk_frozen BK250.out 2; have hfz12_3 := blk_frozen BK250.out 3) | (go_at_call 15; (with_reducible refine (stockadelaw01_awake.calls k  true _ A4.out).mono ?_); rintro e w' ⟨rfl, ⟨nd, rfl⟩⟩; (try first | exact ⟨rfl, _, World.drewN_drewN _ _ _⟩ | exact ⟨rfl, _, Eq.trans (World.drewN_drewN _ _ _) (congrArg (World.drewN _) (Nat.add_assoc _ _ _))⟩)) | (go_at_call 13; (with_reducible refine (word_Alu.calls a0_0 false a0_2 a0_3 t252 t253 _ A6.out).mono ?_); rintro e w' ⟨rfl, ⟨nd, rfl⟩⟩; (try first | exact ⟨rfl, _, World.drewN_drewN _ _ _⟩ | exact ⟨rfl, _, Eq.trans (World.drewN_drewN _ _ _) (congrArg (World.drewN _) (Nat.add_assoc _ _ _))⟩)) | (go_at_call 25; (with_reducible refine (stockadelaw01_half.calls a0_2 t254 _ A7.out).mono ?_); rintro e w' ⟨rfl, ⟨nd, rfl⟩⟩; (try first | exact ⟨rfl, _, World.drewN_drewN _ _ _⟩ | exact ⟨rfl, _, Eq.trans (World.drewN_drewN _ _ _) (congrArg (World.drewN _) (Nat.add_assoc _ _ _))⟩)) | (go_at_call 25; (with_reducible refine (stockadelaw01_half.calls a0_3 t255 _ A8.out).mono ?_); rintro e w' ⟨rfl, ⟨nd, rfl⟩⟩; (try first | exact ⟨rfl, _, World.drewN_drewN _ _ _⟩ | exact ⟨rfl, _, Eq.trans (World.drewN_drewN _ _ _) (congrArg (World.drewN _) (Nat.add_assoc _ _ _))⟩)) | (go_at_call 13; (with_reducible refine (word_Alu.calls a0_0 false (Go.bits .or .u64 t254 (IntKind.u64.wrap (a1 * 4294967296))) (Go.bits .or .u64 t255 (IntKind.u64.wrap (a2 * 4294967296))) t256 t257 _ A9.out).mono ?_); rintro e w' ⟨rfl, ⟨nd, rfl⟩⟩; (try first | exact ⟨rfl, _, World.drewN_drewN _ _ _⟩ | exact ⟨rfl, _, Eq.trans (World.drewN_drewN _ _ _) (congrArg (World.drewN _) (Nat.add_assoc _ _ _))⟩))); go_upto_region 6 with (first | ((with_reducible refine gate_dst (N := 3) rfl ?_); refine box_event ?hg (N := 3) ?hd (cs := #[.int .i64 a0_0, .bool a0_1, .int .u64 a0_2, .int .u64 a0_3]) (t := 24) ?hr ?_; (case hd => rfl); (case hg => rfl); (case hr => first | (go_simp; done) | (go_simp; rfl)); intro gb250 hg w11 hbox hb; have n0_ := Aside0.mk (below_step (by repeat (first | (with_reducible first | exact HB.out | apply below_alloc | apply pw_below_drewN | apply below_drew1) | exact HB.out)) hb); have n1_ := Aside0.mk (hbox); have n2_ := Aside0.mk ((by rw [hg]; exact (below_size (by repeat (first | (with_reducible first | exact HB.out | apply below_alloc | apply pw_below_drewN | apply below_drew1) | exact HB.out))) : w.heap.size ≤ gb250)); have n3_ := Aside0.mk ((by rw [hg]; exact (below_size (by repeat (first | (with_reducible first | exact HB.out | apply below_alloc | apply pw_below_drewN | apply below_drew1) | exact HB.out))) : w.heap.size ≤ gb250)); clear HB; have HB := n0_; have BK250 := n1_; have GW250 := n2_; have GE250 := n3_; clear n0_ n1_ n2_ n3_; clear hb hbox hg; have hcz12_0 : w11.cell? ⟨gb250, 0, none⟩ = some (.int .i64 a0_0) := (blk_cell BK250.out 0).trans rfl; have hcz12_1 : w11.cell? ⟨gb250, 1, none⟩ = some (.bool a0_1) := (blk_cell BK250.out 1).trans rfl; have hcz12_2 : w11.cell? ⟨gb250, 2, none⟩ = some (.int .u64 a0_2) := (blk_cell BK250.out 2).trans rfl; have hcz12_3 : w11.cell? ⟨gb250, 3, none⟩ = some (.int .u64 a0_3) := (blk_cell BK250.out 3).trans rfl; have hfz12_0 := blk_frozen BK250.out 0; have hfz12_1 := blk_frozen BK250.out 1; have hfz12_2 := blk_frozen BK250.out 2; have hfz12_3 := blk_frozen BK250.out 3) | (go_at_call 15; (with_reducible refine (stockadelaw01_awake.calls k  true _ A4.out).mono ?_); rintro e w' ⟨rfl, ⟨nd, rfl⟩⟩; (try first | exact ⟨rfl, _, World.drewN_drewN _ _ _⟩ | exact ⟨rfl, _, Eq.trans (World.drewN_drewN _ _ _) (congrArg (World.drewN _) (Nat.add_assoc _ _ _))⟩)) | (go_at_call 13; (with_reducible refine (word_Alu.calls a0_0 false a0_2 a0_3 t252 t253 _ A6.out).mono ?_); rintro e w' ⟨rfl, ⟨nd, rfl⟩⟩; (try first | exact ⟨rfl, _, World.drewN_drewN _ _ _⟩ | exact ⟨rfl, _, Eq.trans (World.drewN_drewN _ _ _) (congrArg (World.drewN _) (Nat.add_assoc _ _ _))⟩)) | (go_at_call 25; (with_reducible refine (stockadelaw01_half.calls a0_2 t254 _ A7.out).mono ?_); rintro e w' ⟨rfl, ⟨nd, rfl⟩⟩; (try first | exact ⟨rfl, _, World.drewN_drewN _ _ _⟩ | exact ⟨rfl, _, Eq.trans (World.drewN_drewN _ _ _) (congrArg (World.drewN _) (Nat.add_assoc _ _ _))⟩)) | (go_at_call 25; (with_reducible refine (stockadelaw01_half.calls a0_3 t255 _ A8.out).mono ?_); rintro e w' ⟨rfl, ⟨nd, rfl⟩⟩; (try first | exact ⟨rfl, _, World.drewN_drewN _ _ _⟩ | exact ⟨rfl, _, Eq.trans (World.drewN_drewN _ _ _) (congrArg (World.drewN _) (Nat.add_assoc _ _ _))⟩)) | (go_at_call 13; (with_reducible refine (word_Alu.calls a0_0 false (Go.bits .or .u64 t254 (IntKind.u64.wrap (a1 * 4294967296))) (Go.bits .or .u64 t255 (IntKind.u64.wrap (a2 * 4294967296))) t256 t257 _ A9.out).mono ?_); rintro e w' ⟨rfl, ⟨nd, rfl⟩⟩; (try first | exact ⟨rfl, _, World.drewN_drewN _ _ _⟩ | exact ⟨rfl, _, Eq.trans (World.drewN_drewN _ _ _) (congrArg (World.drewN _) (Nat.add_assoc _ _ _))⟩))))
    (try simp only [Act.put, List.setIfInBounds_toArray, List.set_cons_zero, List.set_cons_succ])
    go_cut [67] (fun v67 wc => ∃ (kq : Nat) (x67_9 : Bool), v67 = .bool x67_9 ∧ Aside0 (stockadelaw01_WordHalves.j0 kq a0_0 a0_2 a0_3 t252 t253 x67_9 = some r) ∧ Aside0 (kq ≤ k) ∧ Aside0 (wc.heap[gb250]? = some (.cells #[.int .i64 a0_0, .bool a0_1, .int .u64 a0_2, .int .u64 a0_3] 24 (0, 0))) ∧ Aside0 (Below w.heap.size w wc))
    case first =>
      have H := HC10.out
      clear HC10
      by_cases c13 : t252 = t256
      · rw [if_pos c13] at H
        have c13b0 : (t252 == t256) = true := beq_iff_eq.mpr c13
        have c13b1 : (t252 != t256) = false := bne_eq_false_iff_eq.mpr c13
        clear c13
        (first | rw [c13b0] | (simp only [i64_w, i32_w]; rw [c13b0]) | skip)
        by_cases c14 : t253 = t257
        · rw [if_pos c14] at H
          have c14b0 : (t253 == t257) = true := beq_iff_eq.mpr c14
          have c14b1 : (t253 != t257) = false := bne_eq_false_iff_eq.mpr c14
          clear c14
          by_cases c15 : t252 ≥ 4294967296
          · rw [if_pos c15] at H
            have c15b0 : decide (4294967296 ≤ t252) = true := decide_eq_true c15
            clear c15
            have H' := Aside0.mk H
            clear H
            go_wp2
            repeat (go_quiet (fail); try go_wp2)
            go_meet
            case rel => exact ⟨_, (true), (by first | rfl | (simp; done) | (simp [*]; done)), H', ⟨by first | omega | exact Nat.le_refl _⟩, ⟨by (with_reducible repeat (first | refine blk_drewN ?_ _ | refine blk_drew ?_ | refine blk_alloc ?_ _)); exact BK250.out⟩, ⟨by repeat (first | (with_reducible first | exact HB.out | apply below_alloc | apply pw_below_drewN | apply below_drew1 | refine below_set ?_ GE250.out) | exact HB.out)⟩⟩
          · rw [if_neg c15] at H
            have c15b0 : decide (4294967296 ≤ t252) = false := decide_eq_false c15
            clear c15
            by_cases c16 : t253 = 0
            · rw [if_pos c16] at H
              have c16b0 : (t253 == 0) = true := beq_iff_eq.mpr c16
              have c16b1 : (t253 != 0) = false := bne_eq_false_iff_eq.mpr c16
              clear c16
              have H' := Aside0.mk H
              clear H
              go_wp2
              repeat (go_quiet (fail); try go_wp2)
              go_meet
              case rel => exact ⟨_, (false), (by first | rfl | (simp; done) | (simp [*]; done)), H', ⟨by first | omega | exact Nat.le_refl _⟩, ⟨by (with_reducible repeat (first | refine blk_drewN ?_ _ | refine blk_drew ?_ | refine blk_alloc ?_ _)); exact BK250.out⟩, ⟨by repeat (first | (with_reducible first | exact HB.out | apply below_alloc | apply pw_below_drewN | apply below_drew1 | refine below_set ?_ GE250.out) | exact HB.out)⟩⟩
            · rw [if_neg c16] at H
              have c16b0 : (t253 == 0) = false := beq_eq_false_iff_ne.mpr c16
              have c16b1 : (t253 != 0) = true := bne_iff_ne.mpr c16
              by_cases c17 : t253 = 20
              · rw [if_pos c17] at H
                have c17b0 : (t253 == 20) = true := beq_iff_eq.mpr c17
                have c17b1 : (t253 != 20) = false := bne_eq_false_iff_eq.mpr c17
                clear c17
                have H' := Aside0.mk H
                clear H
                go_wp2
                repeat (go_quiet (fail); try go_wp2)
                go_meet
                case rel => exact ⟨_, ((t252 != 0)), (by first | rfl | (simp; done) | (simp [*]; done)), H', ⟨by first | omega | exact Nat.le_refl _⟩, ⟨by (with_reducible repeat (first | refine blk_drewN ?_ _ | refine blk_drew ?_ | refine blk_alloc ?_ _)); exact BK250.out⟩, ⟨by repeat (first | (with_reducible first | exact HB.out | apply below_alloc | apply pw_below_drewN | apply below_drew1 | refine below_set ?_ GE250.out) | exact HB.out)⟩⟩
              · rw [if_neg c17] at H
                have c17b0 : (t253 == 20) = false := beq_eq_false_iff_ne.mpr c17
                have c17b1 : (t253 != 20) = true := bne_iff_ne.mpr c17
                have H' := Aside0.mk H
                clear H
                go_wp2
                repeat (go_quiet (fail); try go_wp2)
                go_meet
                case rel => exact ⟨_, (true), (by first | rfl | (simp; done) | (simp [*]; done)), H', ⟨by first | omega | exact Nat.le_refl _⟩, ⟨by (with_reducible repeat (first | refine blk_drewN ?_ _ | refine blk_drew ?_ | refine blk_alloc ?_ _)); exact BK250.out⟩, ⟨by repeat (first | (with_reducible first | exact HB.out | apply below_alloc | apply pw_below_drewN | apply below_drew1 | refine below_set ?_ GE250.out) | exact HB.out)⟩⟩
        · rw [if_neg c14] at H
          have c14b0 : (t253 == t257) = false := beq_eq_false_iff_ne.mpr c14
          have c14b1 : (t253 != t257) = true := bne_iff_ne.mpr c14
          have H' := Aside0.mk H
          clear H
          go_wp2
          repeat (go_quiet (fail); try go_wp2)
          go_meet
          case rel => exact ⟨_, (true), (by first | rfl | (simp; done) | (simp [*]; done)), H', ⟨by first | omega | exact Nat.le_refl _⟩, ⟨by (with_reducible repeat (first | refine blk_drewN ?_ _ | refine blk_drew ?_ | refine blk_alloc ?_ _)); exact BK250.out⟩, ⟨by repeat (first | (with_reducible first | exact HB.out | apply below_alloc | apply pw_below_drewN | apply below_drew1 | refine below_set ?_ GE250.out) | exact HB.out)⟩⟩
      · rw [if_neg c13] at H
        have c13b0 : (t252 == t256) = false := beq_eq_false_iff_ne.mpr c13
        have c13b1 : (t252 != t256) = true := bne_iff_ne.mpr c13
        (first | rw [c13b0] | (simp only [i64_w, i32_w]; rw [c13b0]) | skip)
        have H' := Aside0.mk H
        clear H
        go_wp2
        repeat (go_quiet (fail); try go_wp2)
        go_meet
        case rel => exact ⟨_, (true), (by first | rfl | (simp; done) | (simp [*]; done)), H', ⟨by first | omega | exact Nat.le_refl _⟩, ⟨by (with_reducible repeat (first | refine blk_drewN ?_ _ | refine blk_drew ?_ | refine blk_alloc ?_ _)); exact BK250.out⟩, ⟨by repeat (first | (with_reducible first | exact HB.out | apply below_alloc | apply pw_below_drewN | apply below_drew1 | refine below_set ?_ GE250.out) | exact HB.out)⟩⟩
    case rest =>
      clear HC10
      try clear c1
      try clear p2
      try clear c5
      try clear c9
      try clear c13
      try clear c13b0
      try clear c13b1
      try clear c14
      try clear c14b0
      try clear c14b1
      try clear c15
      try clear c15b0
      try clear c16
      try clear c16b0
      try clear c16b1
      try clear c17
      try clear c17b0
      try clear c17b1
      try clear hcz12_0
      try clear hcz12_1
      try clear hcz12_2
      try clear hcz12_3
      try clear hfz12_0
      try clear hfz12_1
      try clear hfz12_2
      try clear hfz12_3
      obtain ⟨kq, x67_9, rfl, HA, HJ9, BK250, HB⟩ := hcut
      cases kq with
      | zero => exact absurd HA.out (by simp [stockadelaw01_WordHalves.j0])
      | succ kj9 =>
        have H := HA.out
        clear HA
        simp only [stockadelaw01_WordHalves.j0] at H
        by_cases c18 : x67_9 = true
        · subst c18
          have H1 : (some false) = some r := by rw [if_pos rfl] at H; exact H
          clear H
          have H := H1
          clear H1
          obtain rfl := Option.some.inj H
          go_wp2
          repeat (go_quiet (fail); try go_wp2)
          go_ret
          exact ⟨by first | rfl | (simp [errW_none, errW_some] <;> rfl) | (simp [*, errW_none, errW_some] <;> rfl), by repeat (first | (with_reducible first | exact HB.out | apply below_alloc | apply pw_below_drewN | apply below_drew1 | refine below_set ?_ GE250.out) | exact HB.out)⟩
        · replace c18 := Bool.eq_false_iff.mpr c18
          subst c18
          have H1 : (if t253 = 0 then (if a0_0 = 3 then (stockadelaw01_WordHalves.j1 kj9 a0_0 a0_2 a0_3 t252 true) else (if a0_0 = 9 then (stockadelaw01_WordHalves.j1 kj9 a0_0 a0_2 a0_3 t252 true) else (if a0_0 = 6 then (stockadelaw01_WordHalves.j1 kj9 a0_0 a0_2 a0_3 t252 true) else (if a0_0 = 7 then (stockadelaw01_WordHalves.j1 kj9 a0_0 a0_2 a0_3 t252 true) else (stockadelaw01_WordHalves.j1 kj9 a0_0 a0_2 a0_3 t252 (a0_0 == 12)))))) else (stockadelaw01_WordHalves.j1 kj9 a0_0 a0_2 a0_3 t252 true)) = some r := by rw [if_neg (show ¬ (false = true) by decide)] at H; exact H
          clear H
          have H := H1
          clear H1
          have HC19 := Aside0.mk H
          clear H
          go_upto_region 8 with (fail)
          repeat (go_quiet (fail); go_upto_region 8 with (fail))
          go_cut [89] (fun v89 wc => ∃ (kq : Nat) (x89_18 : Bool), v89 = .bool x89_18 ∧ Aside0 (stockadelaw01_WordHalves.j1 kq a0_0 a0_2 a0_3 t252 x89_18 = some r) ∧ Aside0 (kq ≤ kj9) ∧ Aside0 (wc.heap[gb250]? = some (.cells #[.int .i64 a0_0, .bool a0_1, .int .u64 a0_2, .int .u64 a0_3] 24 (0, 0))) ∧ Aside0 (Below w.heap.size w wc))
          case first =>
            have H := HC19.out
            clear HC19
            by_cases c20 : t253 = 0
            · rw [if_pos c20] at H
              have c20b0 : (t253 == 0) = true := beq_iff_eq.mpr c20
              have c20b1 : (t253 != 0) = false := bne_eq_false_iff_eq.mpr c20
              clear c20
              (first | rw [c20b0] | (simp only [i64_w, i32_w]; rw [c20b0]) | skip)
              by_cases c21 : a0_0 = 3
              · rw [if_pos c21] at H
                have c21b0 : (a0_0 == 3) = true := beq_iff_eq.mpr c21
                have c21b1 : (a0_0 != 3) = false := bne_eq_false_iff_eq.mpr c21
                clear c21
                have H' := Aside0.mk H
                clear H
                go_wp2
                repeat (go_quiet (fail); try go_wp2)
                go_meet
                case rel => exact ⟨_, (true), (by first | rfl | (simp; done) | (simp [*]; done)), H', ⟨by have := HJ9.out; first | omega | exact Nat.le_refl _⟩, ⟨by (with_reducible repeat (first | refine blk_drewN ?_ _ | refine blk_drew ?_ | refine blk_alloc ?_ _)); exact BK250.out⟩, ⟨by repeat (first | (with_reducible first | exact HB.out | apply below_alloc | apply pw_below_drewN | apply below_drew1 | refine below_set ?_ GE250.out) | exact HB.out)⟩⟩
              · rw [if_neg c21] at H
                have c21b0 : (a0_0 == 3) = false := beq_eq_false_iff_ne.mpr c21
                have c21b1 : (a0_0 != 3) = true := bne_iff_ne.mpr c21
                by_cases c22 : a0_0 = 9
                · rw [if_pos c22] at H
                  have c22b0 : (a0_0 == 9) = true := beq_iff_eq.mpr c22
                  have c22b1 : (a0_0 != 9) = false := bne_eq_false_iff_eq.mpr c22
                  clear c22
                  have H' := Aside0.mk H
                  clear H
                  go_wp2
                  repeat (go_quiet (fail); try go_wp2)
                  go_meet
                  case rel => exact ⟨_, (true), (by first | rfl | (simp; done) | (simp [*]; done)), H', ⟨by have := HJ9.out; first | omega | exact Nat.le_refl _⟩, ⟨by (with_reducible repeat (first | refine blk_drewN ?_ _ | refine blk_drew ?_ | refine blk_alloc ?_ _)); exact BK250.out⟩, ⟨by repeat (first | (with_reducible first | exact HB.out | apply below_alloc | apply pw_below_drewN | apply below_drew1 | refine below_set ?_ GE250.out) | exact HB.out)⟩⟩
                · rw [if_neg c22] at H
                  have c22b0 : (a0_0 == 9) = false := beq_eq_false_iff_ne.mpr c22
                  have c22b1 : (a0_0 != 9) = true := bne_iff_ne.mpr c22
                  by_cases c23 : a0_0 = 6
                  · rw [if_pos c23] at H
                    have c23b0 : (a0_0 == 6) = true := beq_iff_eq.mpr c23
                    have c23b1 : (a0_0 != 6) = false := bne_eq_false_iff_eq.mpr c23
                    clear c23
                    have H' := Aside0.mk H
                    clear H
                    go_wp2
                    repeat (go_quiet (fail); try go_wp2)
                    go_meet
                    case rel => exact ⟨_, (true), (by first | rfl | (simp; done) | (simp [*]; done)), H', ⟨by have := HJ9.out; first | omega | exact Nat.le_refl _⟩, ⟨by (with_reducible repeat (first | refine blk_drewN ?_ _ | refine blk_drew ?_ | refine blk_alloc ?_ _)); exact BK250.out⟩, ⟨by repeat (first | (with_reducible first | exact HB.out | apply below_alloc | apply pw_below_drewN | apply below_drew1 | refine below_set ?_ GE250.out) | exact HB.out)⟩⟩
                  · rw [if_neg c23] at H
                    have c23b0 : (a0_0 == 6) = false := beq_eq_false_iff_ne.mpr c23
                    have c23b1 : (a0_0 != 6) = true := bne_iff_ne.mpr c23
                    by_cases c24 : a0_0 = 7
                    · rw [if_pos c24] at H
                      have c24b0 : (a0_0 == 7) = true := beq_iff_eq.mpr c24
                      have c24b1 : (a0_0 != 7) = false := bne_eq_false_iff_eq.mpr c24
                      clear c24
                      have H' := Aside0.mk H
                      clear H
                      go_wp2
                      repeat (go_quiet (fail); try go_wp2)
                      go_meet
                      case rel => exact ⟨_, (true), (by first | rfl | (simp; done) | (simp [*]; done)), H', ⟨by have := HJ9.out; first | omega | exact Nat.le_refl _⟩, ⟨by (with_reducible repeat (first | refine blk_drewN ?_ _ | refine blk_drew ?_ | refine blk_alloc ?_ _)); exact BK250.out⟩, ⟨by repeat (first | (with_reducible first | exact HB.out | apply below_alloc | apply pw_below_drewN | apply below_drew1 | refine below_set ?_ GE250.out) | exact HB.out)⟩⟩
                    · rw [if_neg c24] at H
                      have c24b0 : (a0_0 == 7) = false := beq_eq_false_iff_ne.mpr c24
                      have c24b1 : (a0_0 != 7) = true := bne_iff_ne.mpr c24
                      have H' := Aside0.mk H
                      clear H
                      go_wp2
                      repeat (go_quiet (fail); try go_wp2)
                      go_meet
                      case rel => exact ⟨_, ((a0_0 == 12)), (by first | rfl | (simp; done) | (simp [*]; done)), H', ⟨by have := HJ9.out; first | omega | exact Nat.le_refl _⟩, ⟨by (with_reducible repeat (first | refine blk_drewN ?_ _ | refine blk_drew ?_ | refine blk_alloc ?_ _)); exact BK250.out⟩, ⟨by repeat (first | (with_reducible first | exact HB.out | apply below_alloc | apply pw_below_drewN | apply below_drew1 | refine below_set ?_ GE250.out) | exact HB.out)⟩⟩
            · rw [if_neg c20] at H
              have c20b0 : (t253 == 0) = false := beq_eq_false_iff_ne.mpr c20
              have c20b1 : (t253 != 0) = true := bne_iff_ne.mpr c20
              (first | rw [c20b0] | (simp only [i64_w, i32_w]; rw [c20b0]) | skip)
              have H' := Aside0.mk H
              clear H
              go_wp2
              repeat (go_quiet (fail); try go_wp2)
              go_meet
              case rel => exact ⟨_, (true), (by first | rfl | (simp; done) | (simp [*]; done)), H', ⟨by have := HJ9.out; first | omega | exact Nat.le_refl _⟩, ⟨by (with_reducible repeat (first | refine blk_drewN ?_ _ | refine blk_drew ?_ | refine blk_alloc ?_ _)); exact BK250.out⟩, ⟨by repeat (first | (with_reducible first | exact HB.out | apply below_alloc | apply pw_below_drewN | apply below_drew1 | refine below_set ?_ GE250.out) | exact HB.out)⟩⟩
          case rest =>
            clear HC19
            try clear c1
            try clear c2
            try clear p2
            try clear c5
            try clear c9
            try clear c13
            try clear c13b0
            try clear c13b1
            try clear c14
            try clear c14b0
            try clear c14b1
            try clear c15
            try clear c15b0
            try clear c16
            try clear c16b0
            try clear c16b1
            try clear c17
            try clear c17b0
            try clear c17b1
            try clear c18
            try clear c20
            try clear c20b0
            try clear c20b1
            try clear c21
            try clear c21b0
            try clear c21b1
            try clear c22
            try clear c22b0
            try clear c22b1
            try clear c23
            try clear c23b0
            try clear c23b1
            try clear c24
            try clear c24b0
            try clear c24b1
            try clear hcz12_0
            try clear hcz12_1
            try clear hcz12_2
            try clear hcz12_3
            try clear hfz12_0
            try clear hfz12_1
            try clear hfz12_2
            try clear hfz12_3
            try clear p2
            obtain ⟨kq, x89_18, rfl, HA, HJ18, BK250, HB⟩ := hcut
            cases kq with
            | zero => exact absurd HA.out (by simp [stockadelaw01_WordHalves.j1])
            | succ kj18 =>
              have H := HA.out
              clear HA
              simp only [stockadelaw01_WordHalves.j1] at H
              by_cases c25 : x89_18 = true
              · subst c25
                have H1 : (some true) = some r := by rw [if_pos rfl] at H; exact H
                clear H
                have H := H1
                clear H1
                obtain rfl := Option.some.inj H
                go_wp2
                repeat (go_quiet (fail); try go_wp2)
                go_ret
                exact ⟨by first | rfl | (simp [errW_none, errW_some] <;> rfl) | (simp [*, errW_none, errW_some] <;> rfl), by repeat (first | (with_reducible first | exact HB.out | apply below_alloc | apply pw_below_drewN | apply below_drew1 | refine below_set ?_ GE250.out) | exact HB.out)⟩
              · replace c25 := Bool.eq_false_iff.mpr c25
                subst c25
                have H1 : ((stockadelaw01_alu.f a0_0 true a0_2 a0_3).bind fun t258 => ((stockadelaw01_half.f t258).bind fun t259 => (some (t252 == t259)))) = some r := by rw [if_neg (show ¬ (false = true) by decide)] at H; exact H
                clear H
                have H := H1
                clear H1
                replace H := Option.bind_eq_some_iff.mp H
                obtain ⟨t258, A260, H⟩ := H
                replace H : ((stockadelaw01_half.f t258).bind fun t259 => (some (t252 == t259))) = some r := H
                have A26 := Aside0.mk A260
                clear A260
                replace H := Option.bind_eq_some_iff.mp H
                obtain ⟨t259, A270, H⟩ := H
                replace H : (some (t252 == t259)) = some r := H
                have A27 := Aside0.mk A270
                clear A270
                obtain rfl := Option.some.inj H
                go_wp2_with (first | (go_at_call 22; (with_reducible refine (stockadelaw01_alu.calls a0_0 true a0_2 a0_3 t258 _ A26.out).mono ?_); rintro e w' ⟨rfl, ⟨nd, rfl⟩⟩; (try first | exact ⟨rfl, _, World.drewN_drewN _ _ _⟩ | exact ⟨rfl, _, Eq.trans (World.drewN_drewN _ _ _) (congrArg (World.drewN _) (Nat.add_assoc _ _ _))⟩)) | (go_at_call 25; (with_reducible refine (stockadelaw01_half.calls t258 t259 _ A27.out).mono ?_); rintro e w' ⟨rfl, ⟨nd, rfl⟩⟩; (try first | exact ⟨rfl, _, World.drewN_drewN _ _ _⟩ | exact ⟨rfl, _, Eq.trans (World.drewN_drewN _ _ _) (congrArg (World.drewN _) (Nat.add_assoc _ _ _))⟩)))
                repeat (go_quiet (first | (go_at_call 22; (with_reducible refine (stockadelaw01_alu.calls a0_0 true a0_2 a0_3 t258 _ A26.out).mono ?_); rintro e w' ⟨rfl, ⟨nd, rfl⟩⟩; (try first | exact ⟨rfl, _, World.drewN_drewN _ _ _⟩ | exact ⟨rfl, _, Eq.trans (World.drewN_drewN _ _ _) (congrArg (World.drewN _) (Nat.add_assoc _ _ _))⟩)) | (go_at_call 25; (with_reducible refine (stockadelaw01_half.calls t258 t259 _ A27.out).mono ?_); rintro e w' ⟨rfl, ⟨nd, rfl⟩⟩; (try first | exact ⟨rfl, _, World.drewN_drewN _ _ _⟩ | exact ⟨rfl, _, Eq.trans (World.drewN_drewN _ _ _) (congrArg (World.drewN _) (Nat.add_assoc _ _ _))⟩))); try go_wp2_with (first | (go_at_call 22; (with_reducible refine (stockadelaw01_alu.calls a0_0 true a0_2 a0_3 t258 _ A26.out).mono ?_); rintro e w' ⟨rfl, ⟨nd, rfl⟩⟩; (try first | exact ⟨rfl, _, World.drewN_drewN _ _ _⟩ | exact ⟨rfl, _, Eq.trans (World.drewN_drewN _ _ _) (congrArg (World.drewN _) (Nat.add_assoc _ _ _))⟩)) | (go_at_call 25; (with_reducible refine (stockadelaw01_half.calls t258 t259 _ A27.out).mono ?_); rintro e w' ⟨rfl, ⟨nd, rfl⟩⟩; (try first | exact ⟨rfl, _, World.drewN_drewN _ _ _⟩ | exact ⟨rfl, _, Eq.trans (World.drewN_drewN _ _ _) (congrArg (World.drewN _) (Nat.add_assoc _ _ _))⟩))))
                go_ret
                exact ⟨by first | rfl | (simp [errW_none, errW_some] <;> rfl) | (simp [*, errW_none, errW_some] <;> rfl), by repeat (first | (with_reducible first | exact HB.out | apply below_alloc | apply pw_below_drewN | apply below_drew1 | refine below_set ?_ GE250.out) | exact HB.out)⟩
  · replace c5 := Bool.eq_false_iff.mpr c5
    subst c5
    have H1 : (some false) = some r := by rw [if_neg (show ¬ (false = true) by decide)] at H; exact H
    clear H
    have H := H1
    clear H1
    obtain rfl := Option.some.inj H
    go_enter Try.func9, Try.ntmps9
    go_wp2_with (first | ((with_reducible refine gate_dst (N := 3) rfl ?_); refine box_event ?hg (N := 3) ?hd (cs := #[.int .i64 a0_0, .bool a0_1, .int .u64 a0_2, .int .u64 a0_3]) (t := 24) ?hr ?_; (case hd => rfl); (case hg => rfl); (case hr => first | (go_simp; done) | (go_simp; rfl)); intro gb250 hg w28 hbox hb; have n0_ := Aside0.mk (below_step (by repeat (first | (with_reducible first | exact HB.out | apply below_alloc | apply pw_below_drewN | apply below_drew1) | exact HB.out)) hb); have n1_ := Aside0.mk (hbox); have n2_ := Aside0.mk ((by rw [hg]; exact (below_size (by repeat (first | (with_reducible first | exact HB.out | apply below_alloc | apply pw_below_drewN | apply below_drew1) | exact HB.out))) : w.heap.size ≤ gb250)); have n3_ := Aside0.mk ((by rw [hg]; exact (below_size (by repeat (first | (with_reducible first | exact HB.out | apply below_alloc | apply pw_below_drewN | apply below_drew1) | exact HB.out))) : w.heap.size ≤ gb250)); clear HB; have HB := n0_; have BK250 := n1_; have GW250 := n2_; have GE250 := n3_; clear n0_ n1_ n2_ n3_; clear hb hbox hg; have hcz29_0 : w28.cell? ⟨gb250, 0, none⟩ = some (.int .i64 a0_0) := (blk_cell BK250.out 0).trans rfl; have hcz29_1 : w28.cell? ⟨gb250, 1, none⟩ = some (.bool a0_1) := (blk_cell BK250.out 1).trans rfl; have hcz29_2 : w28.cell? ⟨gb250, 2, none⟩ = some (.int .u64 a0_2) := (blk_cell BK250.out 2).trans rfl; have hcz29_3 : w28.cell? ⟨gb250, 3, none⟩ = some (.int .u64 a0_3) := (blk_cell BK250.out 3).trans rfl; have hfz29_0 := blk_frozen BK250.out 0; have hfz29_1 := blk_frozen BK250.out 1; have hfz29_2 := blk_frozen BK250.out 2; have hfz29_3 := blk_frozen BK250.out 3) | (go_at_call 15; (with_reducible refine (stockadelaw01_awake.calls k  false _ A4.out).mono ?_); rintro e w' ⟨rfl, ⟨nd, rfl⟩⟩; (try first | exact ⟨rfl, _, World.drewN_drewN _ _ _⟩ | exact ⟨rfl, _, Eq.trans (World.drewN_drewN _ _ _) (congrArg (World.drewN _) (Nat.add_assoc _ _ _))⟩)))
    repeat (go_quiet (first | ((with_reducible refine gate_dst (N := 3) rfl ?_); refine box_event ?hg (N := 3) ?hd (cs := #[.int .i64 a0_0, .bool a0_1, .int .u64 a0_2, .int .u64 a0_3]) (t := 24) ?hr ?_; (case hd => rfl); (case hg => rfl); (case hr => first | (go_simp; done) | (go_simp; rfl)); intro gb250 hg w28 hbox hb; have n0_ := Aside0.mk (below_step (by repeat (first | (with_reducible first | exact HB.out | apply below_alloc | apply pw_below_drewN | apply below_drew1) | exact HB.out)) hb); have n1_ := Aside0.mk (hbox); have n2_ := Aside0.mk ((by rw [hg]; exact (below_size (by repeat (first | (with_reducible first | exact HB.out | apply below_alloc | apply pw_below_drewN | apply below_drew1) | exact HB.out))) : w.heap.size ≤ gb250)); have n3_ := Aside0.mk ((by rw [hg]; exact (below_size (by repeat (first | (with_reducible first | exact HB.out | apply below_alloc | apply pw_below_drewN | apply below_drew1) | exact HB.out))) : w.heap.size ≤ gb250)); clear HB; have HB := n0_; have BK250 := n1_; have GW250 := n2_; have GE250 := n3_; clear n0_ n1_ n2_ n3_; clear hb hbox hg; have hcz29_0 : w28.cell? ⟨gb250, 0, none⟩ = some (.int .i64 a0_0) := (blk_cell BK250.out 0).trans rfl; have hcz29_1 : w28.cell? ⟨gb250, 1, none⟩ = some (.bool a0_1) := (blk_cell BK250.out 1).trans rfl; have hcz29_2 : w28.cell? ⟨gb250, 2, none⟩ = some (.int .u64 a0_2) := (blk_cell BK250.out 2).trans rfl; have hcz29_3 : w28.cell? ⟨gb250, 3, none⟩ = some (.int .u64 a0_3) := (blk_cell BK250.out 3).trans rfl; have hfz29_0 := blk_frozen BK250.out 0; have hfz29_1 := blk_frozen BK250.out 1; have hfz29_2 := blk_frozen BK250.out 2; have hfz29_3 := blk_frozen BK250.out 3) | (go_at_call 15; (with_reducible refine (stockadelaw01_awake.calls k  false _ A4.out).mono ?_); rintro e w' ⟨rfl, ⟨nd, rfl⟩⟩; (try first | exact ⟨rfl, _, World.drewN_drewN _ _ _⟩ | exact ⟨rfl, _, Eq.trans (World.drewN_drewN _ _ _) (congrArg (World.drewN _) (Nat.add_assoc _ _ _))⟩))); try go_wp2_with (first | ((with_reducible refine gate_dst (N := 3) rfl ?_); refine box_event ?hg (N := 3) ?hd (cs := #[.int .i64 a0_0, .bool a0_1, .int .u64 a0_2, .int .u64 a0_3]) (t := 24) ?hr ?_; (case hd => rfl); (case hg => rfl); (case hr => first | (go_simp; done) | (go_simp; rfl)); intro gb250 hg w28 hbox hb; have n0_ := Aside0.mk (below_step (by repeat (first | (with_reducible first | exact HB.out | apply below_alloc | apply pw_below_drewN | apply below_drew1) | exact HB.out)) hb); have n1_ := Aside0.mk (hbox); have n2_ := Aside0.mk ((by rw [hg]; exact (below_size (by repeat (first | (with_reducible first | exact HB.out | apply below_alloc | apply pw_below_drewN | apply below_drew1) | exact HB.out))) : w.heap.size ≤ gb250)); have n3_ := Aside0.mk ((by rw [hg]; exact (below_size (by repeat (first | (with_reducible first | exact HB.out | apply below_alloc | apply pw_below_drewN | apply below_drew1) | exact HB.out))) : w.heap.size ≤ gb250)); clear HB; have HB := n0_; have BK250 := n1_; have GW250 := n2_; have GE250 := n3_; clear n0_ n1_ n2_ n3_; clear hb hbox hg; have hcz29_0 : w28.cell? ⟨gb250, 0, none⟩ = some (.int .i64 a0_0) := (blk_cell BK250.out 0).trans rfl; have hcz29_1 : w28.cell? ⟨gb250, 1, none⟩ = some (.bool a0_1) := (blk_cell BK250.out 1).trans rfl; have hcz29_2 : w28.cell? ⟨gb250, 2, none⟩ = some (.int .u64 a0_2) := (blk_cell BK250.out 2).trans rfl; have hcz29_3 : w28.cell? ⟨gb250, 3, none⟩ = some (.int .u64 a0_3) := (blk_cell BK250.out 3).trans rfl; have hfz29_0 := blk_frozen BK250.out 0; have hfz29_1 := blk_frozen BK250.out 1; have hfz29_2 := blk_frozen BK250.out 2; have hfz29_3 := blk_frozen BK250.out 3) | (go_at_call 15; (with_reducible refine (stockadelaw01_awake.calls k  false _ A4.out).mono ?_); rintro e w' ⟨rfl, ⟨nd, rfl⟩⟩; (try first | exact ⟨rfl, _, World.drewN_drewN _ _ _⟩ | exact ⟨rfl, _, Eq.trans (World.drewN_drewN _ _ _) (congrArg (World.drewN _) (Nat.add_assoc _ _ _))⟩))))
    go_ret
    exact ⟨by first | rfl | (simp [errW_none, errW_some] <;> rfl) | (simp [*, errW_none, errW_some] <;> rfl), by repeat (first | (with_reducible first | exact HB.out | apply below_alloc | apply pw_below_drewN | apply below_drew1 | refine below_set ?_ GE250.out) | exact HB.out)⟩

/-! ### stockadelaw01_holds: function 26 -/
def stockadelaw01_holds.f (k : Nat) (a0 : Int) (a1 : Bool) (a2 : Int) (a3 : Int) : Option (Bool × Bool) := (word_Cond.f k a0 a1 a2 a3).bind fun bt260 => (some (bt260.1, (bt260.2 == 0)))
theorem stockadelaw01_holds.mono : ∀ a0 a1 a2 a3 k, LeO (stockadelaw01_holds.f k a0 a1 a2 a3) (stockadelaw01_holds.f (k + 1) a0 a1 a2 a3) := by
  intro a0 a1 a2 a3 k
  unfold stockadelaw01_holds.f
  repeat' first
      | (with_reducible exact word_Cond.mono _ _ _ _ _)
      | (with_reducible exact LeO.refl _)
      | (with_reducible exact LeO.none _)
      | (with_reducible refine LeO.ite ?_ ?_)
      | (with_reducible refine LeO.bind ?_ (fun _ => ?_))
      | exact word_Cond.mono _ _ _ _ _
      | exact LeO.none _
      | refine LeO.ite ?_ ?_
      | refine LeO.bind ?_ (fun _ => ?_)
set_option maxHeartbeats 8000000 in
set_option maxRecDepth 100000 in
theorem stockadelaw01_holds.calls (k : Nat) (a0 : Int) (a1 : Bool) (a2 : Int) (a3 : Int) (r1 : Bool) (r2 : Bool) (w : World) (h : stockadelaw01_holds.f k a0 a1 a2 a3 = some (r1, r2)) :
    Calls Try.prog 26 #[.int .i64 a0, .bool a1, .int .u64 a2, .int .u64 a3] w fun e w' => e = .returned (.tuple #[.bool r1, .bool r2]) ∧ Drawn0 w w' := by
  have H : ((word_Cond.f k a0 a1 a2 a3).bind fun bt260 => (some (bt260.1, (bt260.2 == 0)))) = some (r1, r2) := h
  clear h
  replace H := Option.bind_eq_some_iff.mp H
  obtain ⟨⟨t260, t261⟩, A50, H⟩ := H
  replace H : (some (t260, (t261 == 0))) = some (r1, r2) := H
  have A5 := Aside0.mk A50
  clear A50
  simp only [Option.some.injEq, Prod.mk.injEq] at H
  obtain ⟨rfl, rfl⟩ := H
  go_enter Try.func26, Try.ntmps26
  go_wp2_with (first | ((with_reducible refine gate_callee (f := 16) rfl ?_); refine goesL_ (some 17) rfl rfl Try.func16 (by kernel_rfl) rfl #[.int .i64 a0, .bool a1, .int .u64 a2, .int .u64 a3] rfl (by (try simp only [List.map_toArray, List.map_cons, List.map_nil]); first | done | rfl | (simp only [List.length_drop, List.length_take]; rfl)) ?_; (with_reducible refine (word_Cond.calls k a0 a1 a2 a3 t260 t261 _ A5.out).mono ?_); rintro e w' ⟨rfl, ⟨nd, rfl⟩⟩; refine ⟨_, rfl, ?_⟩))
  go_ret2
  exact ⟨by first | rfl | (simp; done) | (simp [*]; done), by repeat (first | exact Drawn0.refl _ | apply Drawn0.step)⟩

-- NOT PRINTED: function 10 (stockadelaw01_WordOrders)

end Go.Proofs.Ytgmgnlmhfhdfgaa.P
