/- Made by this session's driver over the kit's printer: for each Go function a Lean function with the same answers, and a proof that the Go call comes to these answers; no conditions but the ones each theorem names. -/
import Derived.Test.YtondogoepcndiaaDoorPx0
namespace Go.Proofs.YtondogoepcndiaaDoor.P
open Go.RowKit Go.Proofs.YtondogoepcndiaaDoorW.PrintWords Go.Proofs.YtondogoepcndiaaDoorW.PrintLast Go.Proofs.YtondogoepcndiaaDoorW.PrintMore
attribute [local go_sem] max2_int min2_int max_two min_two max_three min_three max_four min_four   -- for this text's walks alone
set_option linter.unusedVariables false
set_option linter.unusedSimpArgs false

/-! ### asm_operands: function 52 -/
def asm_operands.j0 : Nat → Bool → Int → Int → Int → Bool → Bool → Option (Int)
 | 0, _, _, _, _, _, _ => none
 | k + 1, x7, x206000, x206001, x206002, x206003, x206004 => if x7 = true then (some 1) else (if x206000 = 6 then (some 3) else (some 2))
def asm_operands.f (k : Nat) (a0_0 : Int) (a0_1 : Int) (a0_2 : Int) (a0_3 : Bool) (a0_4 : Bool) : Option (Int) := if a0_0 = 9 then (some 0) else (if a0_0 = 7 then (asm_operands.j0 k true a0_0 a0_1 a0_2 a0_3 a0_4) else (if a0_0 = 8 then (asm_operands.j0 k true a0_0 a0_1 a0_2 a0_3 a0_4) else (if a0_0 = 2 then (asm_operands.j0 k true a0_0 a0_1 a0_2 a0_3 a0_4) else (if a0_0 = 1 then (asm_operands.j0 k (a0_1 == 8) a0_0 a0_1 a0_2 a0_3 a0_4) else (asm_operands.j0 k false a0_0 a0_1 a0_2 a0_3 a0_4)))))
theorem asm_operands.mono_l : ∀ k, (∀ y0 y1 y2 y3 y4 y5, LeO (asm_operands.j0 k y0 y1 y2 y3 y4 y5) (asm_operands.j0 (k + 1) y0 y1 y2 y3 y4 y5))
 | 0 => fun _ _ _ _ _ _ r h => by simp [asm_operands.j0] at h
 | k + 1 => by
  have ih0 := asm_operands.mono_l k
  ·intro y0 y1 y2 y3 y4 y5
   unfold asm_operands.j0
   repeat' first
   | (with_reducible exact ih0 _ _ _ _ _ _)
   | (with_reducible exact LeO.refl _)
   | (with_reducible exact LeO.none _)
   | (with_reducible refine LeO.ite ?_ ?_)
   | (with_reducible refine LeO.bind ?_ (fun _ => ?_))
   | refine LeO.ite ?_ ?_
   | refine LeO.bind ?_ (fun _ => ?_)
theorem asm_operands.mono : ∀ a0 a1 a2 a3 a4 k, LeO (asm_operands.f k a0 a1 a2 a3 a4) (asm_operands.f (k + 1) a0 a1 a2 a3 a4) := by
 intro a0 a1 a2 a3 a4 k
 have ih0 := asm_operands.mono_l k
 unfold asm_operands.f
 repeat' first
   | (with_reducible exact ih0 _ _ _ _ _ _)
   | (with_reducible exact LeO.refl _)
   | (with_reducible exact LeO.none _)
   | (with_reducible refine LeO.ite ?_ ?_)
   | (with_reducible refine LeO.bind ?_ (fun _ => ?_))
   | refine LeO.ite ?_ ?_
   | refine LeO.bind ?_ (fun _ => ?_)
set_option maxHeartbeats 8000000 in
set_option maxRecDepth 100000 in
theorem asm_operands.calls (k : Nat) (a0_0 : Int) (a0_1 : Int) (a0_2 : Int) (a0_3 : Bool) (a0_4 : Bool) (r : Int) (w : World) (h : asm_operands.f k a0_0 a0_1 a0_2 a0_3 a0_4 = some r) :
  Calls Tryd.prog 52 #[.agg #[.int .i64 a0_0, .int .i64 a0_1, .int .i64 a0_2, .bool a0_3, .bool a0_4]] w fun e w' => e = .returned (.int .i64 r) ∧ Below w.heap.size w w' := by
 have hu49 := Tryd.underlying49
 have HB := Aside0.mk (Below.refl w.heap.size w)
 have H : (if a0_0 = 9 then (some 0) else (if a0_0 = 7 then (asm_operands.j0 k true a0_0 a0_1 a0_2 a0_3 a0_4) else (if a0_0 = 8 then (asm_operands.j0 k true a0_0 a0_1 a0_2 a0_3 a0_4) else (if a0_0 = 2 then (asm_operands.j0 k true a0_0 a0_1 a0_2 a0_3 a0_4) else (if a0_0 = 1 then (asm_operands.j0 k (a0_1 == 8) a0_0 a0_1 a0_2 a0_3 a0_4) else (asm_operands.j0 k false a0_0 a0_1 a0_2 a0_3 a0_4)))))) = some r := h
 clear h
 by_cases c2 : a0_0 = 9
 ·rw [if_pos c2] at H
  obtain ⟨c2b0, c2b1⟩ := eqT c2
  clear c2
  obtain rfl := Option.some.inj H
  go_enter Tryd.func52, Tryd.ntmps52
  go_wp2_with (first | ((with_reducible refine gate_dst (N := 1) rfl ?_); refine sh_box 1 #[.int .i64 a0_0, .int .i64 a0_1, .int .i64 a0_2, .bool a0_3, .bool a0_4] 49 ?_; intro gb205 hg w3 hbox hb; have GE205 := sh_z (w := w) hg; replace HB := sh_b (w := w) hb; have BK205 := Aside0.mk (hbox); clear hb hbox hg; have hcz4 := blk_all5 BK205.out))
  go_ret
  exact ⟨ret_now, b_now⟩
 ·rw [if_neg c2] at H
  obtain ⟨c2b0, c2b1⟩ := eqF c2
  have HC5 := Aside0.mk H
  clear H
  go_enter Tryd.func52, Tryd.ntmps52
  go_upto_region 3 with (first | ((with_reducible refine gate_dst (N := 1) rfl ?_); refine sh_box 1 #[.int .i64 a0_0, .int .i64 a0_1, .int .i64 a0_2, .bool a0_3, .bool a0_4] 49 ?_; intro gb205 hg w6 hbox hb; have GE205 := sh_z (w := w) hg; replace HB := sh_b (w := w) hb; have BK205 := Aside0.mk (hbox); clear hb hbox hg; have hcz7 := blk_all5 BK205.out))
  (try simp only [Act.put, List.setIfInBounds_toArray, List.set_cons_zero, List.set_cons_succ])
  go_cut [7] (fun v7 wc => ∃ (kq : Nat) (x7_4 : Bool), v7 = .bool x7_4 ∧ Aside0 (asm_operands.j0 kq x7_4 a0_0 a0_1 a0_2 a0_3 a0_4 = some r) ∧ Aside0 (kq ≤ k) ∧ Aside0 (wc.heap[gb205]? = some (.cells #[.int .i64 a0_0, .int .i64 a0_1, .int .i64 a0_2, .bool a0_3, .bool a0_4] 49 (0, 0))) ∧ Aside0 (Below w.heap.size w wc))
  case first =>
   have H := HC5.out
   clear HC5
   by_cases c8 : a0_0 = 7
   ·rw [if_pos c8] at H
    obtain ⟨c8b0, c8b1⟩ := eqT c8
    clear c8
    (first | rw [c8b0] | (simp only [i64_w, i32_w]; rw [c8b0]) | skip)
    have H' := Aside0.mk H
    clear H
    have hcz9 := blk_all5 BK205.out
    go_wp2
    go_meet
    case rel => exact ⟨_, (true), eq_now, H', ⟨by first | omega | exact Nat.le_refl _⟩, ⟨bk_now⟩, ⟨b_now⟩⟩
   ·rw [if_neg c8] at H
    obtain ⟨c8b0, c8b1⟩ := eqF c8
    (first | rw [c8b0] | (simp only [i64_w, i32_w]; rw [c8b0]) | skip)
    by_cases c10 : a0_0 = 8
    ·rw [if_pos c10] at H
     obtain ⟨c10b0, c10b1⟩ := eqT c10
     clear c10
     have H' := Aside0.mk H
     clear H
     have hcz11 := blk_all5 BK205.out
     go_wp2
     go_meet
     case rel => exact ⟨_, (true), eq_now, H', ⟨by first | omega | exact Nat.le_refl _⟩, ⟨bk_now⟩, ⟨b_now⟩⟩
    ·rw [if_neg c10] at H
     obtain ⟨c10b0, c10b1⟩ := eqF c10
     by_cases c12 : a0_0 = 2
     ·rw [if_pos c12] at H
      obtain ⟨c12b0, c12b1⟩ := eqT c12
      clear c12
      have H' := Aside0.mk H
      clear H
      have hcz13 := blk_all5 BK205.out
      go_wp2
      go_meet
      case rel => exact ⟨_, (true), eq_now, H', ⟨by first | omega | exact Nat.le_refl _⟩, ⟨bk_now⟩, ⟨b_now⟩⟩
     ·rw [if_neg c12] at H
      obtain ⟨c12b0, c12b1⟩ := eqF c12
      by_cases c14 : a0_0 = 1
      ·rw [if_pos c14] at H
       obtain ⟨c14b0, c14b1⟩ := eqT c14
       clear c14
       have H' := Aside0.mk H
       clear H
       have hcz15 := blk_all5 BK205.out
       go_wp2
       go_meet
       case rel => exact ⟨_, ((a0_1 == 8)), eq_now, H', ⟨by first | omega | exact Nat.le_refl _⟩, ⟨bk_now⟩, ⟨b_now⟩⟩
      ·rw [if_neg c14] at H
       obtain ⟨c14b0, c14b1⟩ := eqF c14
       have H' := Aside0.mk H
       clear H
       have hcz16 := blk_all5 BK205.out
       go_wp2
       go_meet
       case rel => exact ⟨_, (false), eq_now, H', ⟨by first | omega | exact Nat.le_refl _⟩, ⟨bk_now⟩, ⟨b_now⟩⟩
  case rest =>
   clear HC5
   try clear c1
   try clear c2
   try clear c2b0
   try clear c2b1
   try clear p2
   try clear c5
   try clear c8
   try clear c8b0
   try clear c8b1
   try clear c10
   try clear c10b0
   try clear c10b1
   try clear c12
   try clear c12b0
   try clear c12b1
   try clear c14
   try clear c14b0
   try clear c14b1
   try clear hcz11
   try clear hcz13
   try clear hcz15
   try clear hcz16
   try clear hcz4
   try clear hcz7
   try clear hcz9
   obtain ⟨kq, x7_4, rfl, HA, HJ4, BK205, HB⟩ := hcut
   cases kq with
   | zero => exact absurd HA.out (by simp [asm_operands.j0])
   | succ kj4 =>
    have H := HA.out
    clear HA
    simp only [asm_operands.j0] at H
    by_cases c17 : x7_4 = true
    ·subst c17
     replace H := sh_t H
     obtain rfl := Option.some.inj H
     go_wp2
     go_ret
     exact ⟨ret_now, b_now⟩
    ·replace c17 := Bool.eq_false_iff.mpr c17
     subst c17
     replace H := sh_f H
     by_cases c18 : a0_0 = 6
     ·rw [if_pos c18] at H
      obtain ⟨c18b0, c18b1⟩ := eqT c18
      clear c18
      obtain rfl := Option.some.inj H
      have hcz19 := blk_all5 BK205.out
      go_wp2
      go_ret
      exact ⟨ret_now, b_now⟩
     ·rw [if_neg c18] at H
      obtain ⟨c18b0, c18b1⟩ := eqF c18
      obtain rfl := Option.some.inj H
      have hcz20 := blk_all5 BK205.out
      go_wp2
      go_ret
      exact ⟨ret_now, b_now⟩

/-! ### stringslite_HasPrefix: function 71 -/
def stringslite_HasPrefix.f (a0 : ByteArray) (a1 : ByteArray) : Option (Bool) := if (a0.size : Int) ≥ (a1.size : Int) then (if 0 ≤ (a1.size : Int) then (if (a1.size : Int) ≤ (a0.size : Int) then (some ((a0.extract 0 ((a1.size : Int) : Int).toNat).toList == a1.toList)) else (none)) else (none)) else (some false)
set_option maxHeartbeats 8000000 in
set_option maxRecDepth 100000 in
theorem stringslite_HasPrefix.calls (a0 : ByteArray) (a1 : ByteArray) (r : Bool) (w : World) (h : stringslite_HasPrefix.f a0 a1 = some r) :
  Calls Tryd.prog 71 #[.string a0, .string a1] w fun e w' => e = .returned (.bool r) ∧ Drawn0 w w' := by
 have H : (if (a0.size : Int) ≥ (a1.size : Int) then (if 0 ≤ (a1.size : Int) then (if (a1.size : Int) ≤ (a0.size : Int) then (some ((a0.extract 0 ((a1.size : Int) : Int).toNat).toList == a1.toList)) else (none)) else (none)) else (some false)) = some r := h
 clear h
 by_cases c3 : (a0.size : Int) ≥ (a1.size : Int)
 ·rw [if_pos c3] at H
  have c3b0 : decide ((a1.size : Int) ≤ (a0.size : Int)) = true := decide_eq_true c3
  have c3b1 : decide (a1.size ≤ a0.size) = true := decide_eq_true (Int.ofNat_le.mp c3)
  clear c3
  by_cases c4 : 0 ≤ (a1.size : Int)
  ·rw [if_pos c4] at H
   have c4b0 := eq_true c4
   have c4b1 : decide (0 ≤ (a1.size : Int)) = true := decide_eq_true c4
   clear c4
   by_cases c5 : (a1.size : Int) ≤ (a0.size : Int)
   ·rw [if_pos c5] at H
    have c5b0 := eq_true c5
    have c5b1 : decide ((a1.size : Int) ≤ (a0.size : Int)) = true := decide_eq_true c5
    clear c5
    obtain rfl := Option.some.inj H
    go_enter Tryd.func71, Tryd.ntmps71
    go_wp2
    go_ret
    exact ⟨by first | rfl | (simp; done) | (simp [*]; done), by repeat (first | exact Drawn0.refl _ | apply Drawn0.step)⟩
   ·rw [if_neg c5] at H
    exact absurd H (by simp)
  ·rw [if_neg c4] at H
   exact absurd H (by simp)
 ·rw [if_neg c3] at H
  have c3b0 : decide ((a1.size : Int) ≤ (a0.size : Int)) = false := decide_eq_false c3
  have c3b1 : decide (a1.size ≤ a0.size) = false := decide_eq_false (fun h => c3 (Int.ofNat_le.mpr h))
  clear c3
  obtain rfl := Option.some.inj H
  go_enter Tryd.func71, Tryd.ntmps71
  go_wp2
  go_ret
  exact ⟨by first | rfl | (simp; done) | (simp [*]; done), by repeat (first | exact Drawn0.refl _ | apply Drawn0.step)⟩

/-! ### strings_HasPrefix: function 54 -/
def strings_HasPrefix.f (a0 : ByteArray) (a1 : ByteArray) : Option (Bool) := (stringslite_HasPrefix.f a0 a1).bind fun t206 => (some t206)
set_option maxHeartbeats 8000000 in
set_option maxRecDepth 100000 in
theorem strings_HasPrefix.calls (a0 : ByteArray) (a1 : ByteArray) (r : Bool) (w : World) (h : strings_HasPrefix.f a0 a1 = some r) :
  Calls Tryd.prog 54 #[.string a0, .string a1] w fun e w' => e = .returned (.bool r) ∧ Drawn0 w w' := by
 have H : ((stringslite_HasPrefix.f a0 a1).bind fun t206 => (some t206)) = some r := h
 clear h
 obtain ⟨t206, A3, H⟩ := bs_ H; try dsimp only at H
 obtain rfl := Option.some.inj H
 go_enter Tryd.func54, Tryd.ntmps54
 go_wp2_with (first | ((with_reducible refine gate_callee (f := 71) rfl ?_); refine sh_call (some 7) Tryd.func71 #[.string a0, .string a1] ?_; (with_reducible refine (stringslite_HasPrefix.calls a0 a1 t206 _ A3.out).mono ?_); rintro e w' ⟨rfl, ⟨nd, rfl⟩⟩; refine ⟨_, rfl, ?_⟩))
 go_ret
 exact ⟨by first | rfl | (simp; done) | (simp [*]; done), by repeat (first | exact Drawn0.refl _ | apply Drawn0.step)⟩

end Go.Proofs.YtondogoepcndiaaDoor.P
