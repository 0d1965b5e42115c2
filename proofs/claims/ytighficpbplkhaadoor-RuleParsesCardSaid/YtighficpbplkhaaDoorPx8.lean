/- Made by this session's driver over the kit's printer: for each Go function a Lean function with the same answers, and a proof that the Go call comes to these answers; no conditions but the ones each theorem names. -/
import Derived.Test.YtighficpbplkhaaDoorPx0
import Derived.Test.YtighficpbplkhaaDoorPx2
import Derived.Test.YtighficpbplkhaaDoorPx7
import Derived.Test.YtighficpbplkhaaDoorPxXXOf
import Derived.Test.YtighficpbplkhaaDoorPxXXIt
namespace Go.Proofs.YtighficpbplkhaaDoor.P
open Go.RowKit Go.Proofs.YtighficpbplkhaaDoorW.PrintWords Go.Proofs.YtighficpbplkhaaDoorW.PrintLast Go.Proofs.YtighficpbplkhaaDoorW.PrintMore
attribute [local go_sem] max2_int min2_int max_two min_two max_three min_three max_four min_four   -- for this text's walks alone
set_option linter.unusedVariables false
set_option linter.unusedSimpArgs false

/-! ### rule_text: function 45 -/
def rule_text.j0 : Nat → ByteArray → Bool → Int → Int → Int → Int → Int → Int → Option (ByteArray)
 | 0, _, _, _, _, _, _, _, _ => none
 | k + 1, x3, x142000, x142001, x142002, x142003, x142004, x142005, x142006 => (rule_of.f x142001).bind fun t142 => (if x3.size + t142.size ≤ 9223372036854775807 then (if x142001 ≥ 3 then ((strconv_Itoa_63.f (wrap64 (8 * x142003))).bind fun t143 => (if 1 + t143.size ≤ 9223372036854775807 then (if ((⟨#[117]⟩ : ByteArray) ++ t143).size + 1 ≤ 9223372036854775807 then ((strconv_Itoa_63.f x142002).bind fun t144 => (if (((⟨#[117]⟩ : ByteArray) ++ t143) ++ (⟨#[64]⟩ : ByteArray)).size + t144.size ≤ 9223372036854775807 then (if (x3 ++ t142).size + ((((⟨#[117]⟩ : ByteArray) ++ t143) ++ (⟨#[64]⟩ : ByteArray)) ++ t144).size ≤ 9223372036854775807 then ((rule_full.f x142003).bind fun t145 => (if x142004 = t145 then (if ((x3 ++ t142) ++ ((((⟨#[117]⟩ : ByteArray) ++ t143) ++ (⟨#[64]⟩ : ByteArray)) ++ t144)).size + 1 ≤ 9223372036854775807 then ((rule_digits.f x142005).bind fun t146 => (if (((x3 ++ t142) ++ ((((⟨#[117]⟩ : ByteArray) ++ t143) ++ (⟨#[64]⟩ : ByteArray)) ++ t144)) ++ (⟨#[32]⟩ : ByteArray)).size + t146.size ≤ 9223372036854775807 then (if ((((x3 ++ t142) ++ ((((⟨#[117]⟩ : ByteArray) ++ t143) ++ (⟨#[64]⟩ : ByteArray)) ++ t144)) ++ (⟨#[32]⟩ : ByteArray)) ++ t146).size + 2 ≤ 9223372036854775807 then ((rule_digits.f x142006).bind fun t147 => (if (((((x3 ++ t142) ++ ((((⟨#[117]⟩ : ByteArray) ++ t143) ++ (⟨#[64]⟩ : ByteArray)) ++ t144)) ++ (⟨#[32]⟩ : ByteArray)) ++ t146) ++ (⟨#[46, 46]⟩ : ByteArray)).size + t147.size ≤ 9223372036854775807 then (some ((((((x3 ++ t142) ++ ((((⟨#[117]⟩ : ByteArray) ++ t143) ++ (⟨#[64]⟩ : ByteArray)) ++ t144)) ++ (⟨#[32]⟩ : ByteArray)) ++ t146) ++ (⟨#[46, 46]⟩ : ByteArray)) ++ t147)) else (none))) else (none)) else (none))) else (none)) else ((rule_digits.f x142004).bind fun t148 => (if 1 + t148.size ≤ 9223372036854775807 then (if ((x3 ++ t142) ++ ((((⟨#[117]⟩ : ByteArray) ++ t143) ++ (⟨#[64]⟩ : ByteArray)) ++ t144)).size + ((⟨#[47]⟩ : ByteArray) ++ t148).size ≤ 9223372036854775807 then (if (((x3 ++ t142) ++ ((((⟨#[117]⟩ : ByteArray) ++ t143) ++ (⟨#[64]⟩ : ByteArray)) ++ t144)) ++ ((⟨#[47]⟩ : ByteArray) ++ t148)).size + 1 ≤ 9223372036854775807 then ((rule_digits.f x142005).bind fun t149 => (if ((((x3 ++ t142) ++ ((((⟨#[117]⟩ : ByteArray) ++ t143) ++ (⟨#[64]⟩ : ByteArray)) ++ t144)) ++ ((⟨#[47]⟩ : ByteArray) ++ t148)) ++ (⟨#[32]⟩ : ByteArray)).size + t149.size ≤ 9223372036854775807 then (if (((((x3 ++ t142) ++ ((((⟨#[117]⟩ : ByteArray) ++ t143) ++ (⟨#[64]⟩ : ByteArray)) ++ t144)) ++ ((⟨#[47]⟩ : ByteArray) ++ t148)) ++ (⟨#[32]⟩ : ByteArray)) ++ t149).size + 2 ≤ 9223372036854775807 then ((rule_digits.f x142006).bind fun t150 => (if ((((((x3 ++ t142) ++ ((((⟨#[117]⟩ : ByteArray) ++ t143) ++ (⟨#[64]⟩ : ByteArray)) ++ t144)) ++ ((⟨#[47]⟩ : ByteArray) ++ t148)) ++ (⟨#[32]⟩ : ByteArray)) ++ t149) ++ (⟨#[46, 46]⟩ : ByteArray)).size + t150.size ≤ 9223372036854775807 then (some (((((((x3 ++ t142) ++ ((((⟨#[117]⟩ : ByteArray) ++ t143) ++ (⟨#[64]⟩ : ByteArray)) ++ t144)) ++ ((⟨#[47]⟩ : ByteArray) ++ t148)) ++ (⟨#[32]⟩ : ByteArray)) ++ t149) ++ (⟨#[46, 46]⟩ : ByteArray)) ++ t150)) else (none))) else (none)) else (none))) else (none)) else (none)) else (none))))) else (none)) else (none))) else (none)) else (none))) else (if (x3 ++ t142).size + 1 ≤ 9223372036854775807 then ((rule_digits.f x142005).bind fun t151 => (if ((x3 ++ t142) ++ (⟨#[32]⟩ : ByteArray)).size + t151.size ≤ 9223372036854775807 then (if (((x3 ++ t142) ++ (⟨#[32]⟩ : ByteArray)) ++ t151).size + 2 ≤ 9223372036854775807 then ((rule_digits.f x142006).bind fun t152 => (if ((((x3 ++ t142) ++ (⟨#[32]⟩ : ByteArray)) ++ t151) ++ (⟨#[46, 46]⟩ : ByteArray)).size + t152.size ≤ 9223372036854775807 then (some (((((x3 ++ t142) ++ (⟨#[32]⟩ : ByteArray)) ++ t151) ++ (⟨#[46, 46]⟩ : ByteArray)) ++ t152)) else (none))) else (none)) else (none))) else (none))) else (none))
def rule_text.f (k : Nat) (a0_0 : Bool) (a0_1 : Int) (a0_2 : Int) (a0_3 : Int) (a0_4 : Int) (a0_5 : Int) (a0_6 : Int) : Option (ByteArray) := if a0_0 = true then (rule_text.j0 k (⟨#[110, 111, 116, 32]⟩ : ByteArray) a0_0 a0_1 a0_2 a0_3 a0_4 a0_5 a0_6) else (rule_text.j0 k (⟨#[]⟩ : ByteArray) a0_0 a0_1 a0_2 a0_3 a0_4 a0_5 a0_6)
theorem rule_text.mono_l : ∀ k, (∀ y0 y1 y2 y3 y4 y5 y6 y7, LeO (rule_text.j0 k y0 y1 y2 y3 y4 y5 y6 y7) (rule_text.j0 (k + 1) y0 y1 y2 y3 y4 y5 y6 y7))
 | 0 => fun _ _ _ _ _ _ _ _ r h => by simp [rule_text.j0] at h
 | k + 1 => by
  have ih0 := rule_text.mono_l k
  ·intro y0 y1 y2 y3 y4 y5 y6 y7
   unfold rule_text.j0
   repeat' first
   | (with_reducible exact ih0 _ _ _ _ _ _ _ _)
   | (with_reducible exact LeO.refl _)
   | (with_reducible exact LeO.none _)
   | (with_reducible refine LeO.ite ?_ ?_)
   | (with_reducible refine LeO.bind ?_ (fun _ => ?_))
   | exact ih0 _ _ _ _ _ _ _ _
   | exact LeO.none _
   | refine LeO.ite ?_ ?_
   | refine LeO.bind ?_ (fun _ => ?_)
theorem rule_text.mono : ∀ a0 a1 a2 a3 a4 a5 a6 k, LeO (rule_text.f k a0 a1 a2 a3 a4 a5 a6) (rule_text.f (k + 1) a0 a1 a2 a3 a4 a5 a6) := by
 intro a0 a1 a2 a3 a4 a5 a6 k
 have ih0 := rule_text.mono_l k
 unfold rule_text.f
 repeat' first
   | (with_reducible exact ih0 _ _ _ _ _ _ _ _)
   | (with_reducible exact LeO.refl _)
   | (with_reducible exact LeO.none _)
   | (with_reducible refine LeO.ite ?_ ?_)
   | (with_reducible refine LeO.bind ?_ (fun _ => ?_))
   | exact ih0 _ _ _ _ _ _ _ _
   | exact LeO.none _
   | refine LeO.ite ?_ ?_
   | refine LeO.bind ?_ (fun _ => ?_)
def rule_text.T6 : Bool × List (List Nat × List Nat) := (true, [([], []), ([], []), ([1], [1]), ([2], [2]), ([3], [3]), ([4], [4]), ([5], [5]), ([], []), ([7], [7]), ([8, 4], [8]), ([6, 9], [6, 9]), ([0, 10], [0, 10]), ([11, 9, 0, 1, 2, 3, 4, 5, 6, 7, 8, 9, 10, 11], [0, 11])])
def rule_text.B6 : List Nat := [0, 0, 2, 6, 14, 30, 62, 0, 128, 414, 1022, 2047, 4095]
theorem rule_text.tab6 : rtab .any (opsOf Tryd.f45 6) = rule_text.T6 := by kernel_rfl
theorem rule_text.bits6 : waitsOk rule_text.T6.2 rule_text.B6 = true := by kernel_rfl
def rule_text.T9 : Bool × List (List Nat × List Nat) := (true, [([], []), ([0], [0]), ([], []), ([2], [2]), ([3], [3]), ([1, 4], [1, 4]), ([5], [5]), ([], []), ([7], [7]), ([8, 4], [8]), ([6, 9], [6, 9]), ([10, 9, 0, 1, 2, 3, 4, 5, 6, 7, 8, 9, 10], [10])])
def rule_text.B9 : List Nat := [0, 1, 0, 4, 12, 31, 63, 0, 128, 412, 1023, 2047]
theorem rule_text.tab9 : rtab .any (opsOf Tryd.f45 9) = rule_text.T9 := by kernel_rfl
theorem rule_text.bits9 : waitsOk rule_text.T9.2 rule_text.B9 = true := by kernel_rfl
set_option maxHeartbeats 8000000 in
set_option maxRecDepth 100000 in
theorem rule_text.calls (k : Nat) (a0_0 : Bool) (a0_1 : Int) (a0_2 : Int) (a0_3 : Int) (a0_4 : Int) (a0_5 : Int) (a0_6 : Int) (r : ByteArray) (w : World) (hrG0 : Kd.C kGF w (some ⟨0, 0, none⟩) gl0.length gl0) (h : rule_text.f k a0_0 a0_1 a0_2 a0_3 a0_4 a0_5 a0_6 = some r) :
  Calls Tryd.prog 45 #[.agg #[.bool a0_0, .int .i64 a0_1, .int .i64 a0_2, .int .i64 a0_3, .int .u64 a0_4, .int .u64 a0_5, .int .u64 a0_6]] w fun e w' => e = .returned (.string r) ∧ Below w.heap.size w w' := by
 have hu50 := Tryd.underlying50
 have fd88_0 : ∀ (W_ : World) (v0 v1 : Value), (Instr.field 88 (.agg #[v0, v1]) 0).run Tryd.prog W_ = .ok v0 W_ := by intros; kernel_rfl
 have fd88_1 : ∀ (W_ : World) (v0 v1 : Value), (Instr.field 88 (.agg #[v0, v1]) 1).run Tryd.prog W_ = .ok v1 W_ := by intros; kernel_rfl
 have HRG0 := Aside0.mk hrG0
 clear hrG0
 have HB := Aside0.mk (Below.refl w.heap.size w)
 have H : (if a0_0 = true then (rule_text.j0 k (⟨#[110, 111, 116, 32]⟩ : ByteArray) a0_0 a0_1 a0_2 a0_3 a0_4 a0_5 a0_6) else (rule_text.j0 k (⟨#[]⟩ : ByteArray) a0_0 a0_1 a0_2 a0_3 a0_4 a0_5 a0_6)) = some r := h
 clear h
 have HC2 := Aside0.mk H
 clear H
 go_enter Tryd.func45, Tryd.ntmps45
 go_upto_if 5 with (first | ((with_reducible refine gate_dst (N := 1) rfl ?_); refine sh_box 1 #[.bool a0_0, .int .i64 a0_1, .int .i64 a0_2, .int .i64 a0_3, .int .u64 a0_4, .int .u64 a0_5, .int .u64 a0_6] 50 ?_; intro gb141 hg w3 hbox hb; have GE141 := sh_z (w := w) hg; replace HB := sh_b (w := w) hb; have BK141 := Aside0.mk (hbox); clear hb hbox hg; have hcz4 := blk_all7 BK141.out))
 (try simp only [Act.put, List.setIfInBounds_toArray, List.set_cons_zero, List.set_cons_succ])
 go_cut [3] (fun v3 wc => ∃ (kq : Nat) (x3_1 : ByteArray), v3 = .string x3_1 ∧ Aside0 (rule_text.j0 kq x3_1 a0_0 a0_1 a0_2 a0_3 a0_4 a0_5 a0_6 = some r) ∧ Aside0 (kq ≤ k) ∧ Aside0 (wc.heap[gb141]? = some (.cells #[.bool a0_0, .int .i64 a0_1, .int .i64 a0_2, .int .i64 a0_3, .int .u64 a0_4, .int .u64 a0_5, .int .u64 a0_6] 50 (0, 0))) ∧ Aside0 (Below w.heap.size w wc))
 case first =>
  have H := HC2.out
  clear HC2
  by_cases c5 : a0_0 = true
  ·subst c5
   replace H := sh_t H
   have H' := Aside0.mk H
   clear H
   go_wp2
   go_meet
   case rel => exact ⟨_, ((⟨#[110, 111, 116, 32]⟩ : ByteArray)), eq_now, H', ⟨by first | omega | exact Nat.le_refl _⟩, ⟨bk_now⟩, ⟨b_now⟩⟩
  ·replace c5 := Bool.eq_false_iff.mpr c5
   subst c5
   replace H := sh_f H
   have H' := Aside0.mk H
   clear H
   go_wp2
   go_meet
   case rel => exact ⟨_, ((⟨#[]⟩ : ByteArray)), eq_now, H', ⟨by first | omega | exact Nat.le_refl _⟩, ⟨bk_now⟩, ⟨b_now⟩⟩
 case rest =>
  clear HC2
  clear hcz4
  obtain ⟨kq, x3_1, rfl, HA, HJ1, BK141, HB⟩ := hcut
  cases kq with
  | zero => exact absurd HA.out (by simp [rule_text.j0])
  | succ kj1 =>
   have H := HA.out
   clear HA
   simp only [rule_text.j0] at H
   replace H := Option.bind_eq_some_iff.mp H; obtain ⟨t142, A60, H⟩ := H; try dsimp only at H
   have A6 := Aside0.mk A60
   clear A60
   by_cases c7 : x3_1.size + t142.size ≤ 9223372036854775807
   ·rw [if_pos c7] at H
    have c7b0 := eq_true c7
    have c7b1 : decide (x3_1.size + t142.size ≤ 9223372036854775807) = true := decide_eq_true c7
    try have c7b2 : (9223372036854775807 < x3_1.size + t142.size) = False := eq_false (Nat.not_lt.2 c7)
    by_cases c8 : a0_1 ≥ 3
    ·rw [if_pos c8] at H
     have c8b0 : decide (3 ≤ a0_1) = true := decide_eq_true c8
     clear c8
     replace H := Option.bind_eq_some_iff.mp H; obtain ⟨t143, A90, H⟩ := H; try dsimp only at H
     have A9 := Aside0.mk A90
     clear A90
     by_cases c10 : 1 + t143.size ≤ 9223372036854775807
     ·rw [if_pos c10] at H
      have c10b0 := eq_true c10
      have c10b1 : decide (1 + t143.size ≤ 9223372036854775807) = true := decide_eq_true c10
      try have c10b2 : (9223372036854775807 < 1 + t143.size) = False := eq_false (Nat.not_lt.2 c10)
      by_cases c11 : ((⟨#[117]⟩ : ByteArray) ++ t143).size + 1 ≤ 9223372036854775807
      ·rw [if_pos c11] at H
       have c11b0 := eq_true c11
       have c11_y0 : ((9223372036854775807 < 1 + t143.size + 1) : Prop) = False := eq_false (by have h_ := c11; simp only [ByteArray.size_append] at h_; exact Nat.not_lt.2 h_)
       have c11_z0 : ((1 + t143.size + 1 ≤ 9223372036854775807) : Prop) = True := eq_true (by have h_ := c11; simp only [ByteArray.size_append] at h_; exact h_)
       have c11b1 : decide (((⟨#[117]⟩ : ByteArray) ++ t143).size + 1 ≤ 9223372036854775807) = true := decide_eq_true c11
       try have c11b2 : (9223372036854775807 < ((⟨#[117]⟩ : ByteArray) ++ t143).size + 1) = False := eq_false (Nat.not_lt.2 c11)
       replace H := Option.bind_eq_some_iff.mp H; obtain ⟨t144, A120, H⟩ := H; try dsimp only at H
       have A12 := Aside0.mk A120
       clear A120
       by_cases c13 : (((⟨#[117]⟩ : ByteArray) ++ t143) ++ (⟨#[64]⟩ : ByteArray)).size + t144.size ≤ 9223372036854775807
       ·rw [if_pos c13] at H
        have c13b0 := eq_true c13
        have c13_y0 : ((9223372036854775807 < 1 + t143.size + 1 + t144.size) : Prop) = False := eq_false (by have h_ := c13; simp only [ByteArray.size_append] at h_; exact Nat.not_lt.2 h_)
        have c13_z0 : ((1 + t143.size + 1 + t144.size ≤ 9223372036854775807) : Prop) = True := eq_true (by have h_ := c13; simp only [ByteArray.size_append] at h_; exact h_)
        have c13b1 : decide ((((⟨#[117]⟩ : ByteArray) ++ t143) ++ (⟨#[64]⟩ : ByteArray)).size + t144.size ≤ 9223372036854775807) = true := decide_eq_true c13
        try have c13b2 : (9223372036854775807 < (((⟨#[117]⟩ : ByteArray) ++ t143) ++ (⟨#[64]⟩ : ByteArray)).size + t144.size) = False := eq_false (Nat.not_lt.2 c13)
        by_cases c14 : (x3_1 ++ t142).size + ((((⟨#[117]⟩ : ByteArray) ++ t143) ++ (⟨#[64]⟩ : ByteArray)) ++ t144).size ≤ 9223372036854775807
        ·rw [if_pos c14] at H
         have c14b0 := eq_true c14
         have c14_y0 : ((9223372036854775807 < x3_1.size + t142.size + (1 + t143.size + 1 + t144.size)) : Prop) = False := eq_false (by have h_ := c14; simp only [ByteArray.size_append] at h_; exact Nat.not_lt.2 h_)
         have c14_z0 : ((x3_1.size + t142.size + (1 + t143.size + 1 + t144.size) ≤ 9223372036854775807) : Prop) = True := eq_true (by have h_ := c14; simp only [ByteArray.size_append] at h_; exact h_)
         have c14b1 : decide ((x3_1 ++ t142).size + ((((⟨#[117]⟩ : ByteArray) ++ t143) ++ (⟨#[64]⟩ : ByteArray)) ++ t144).size ≤ 9223372036854775807) = true := decide_eq_true c14
         try have c14b2 : (9223372036854775807 < (x3_1 ++ t142).size + ((((⟨#[117]⟩ : ByteArray) ++ t143) ++ (⟨#[64]⟩ : ByteArray)) ++ t144).size) = False := eq_false (Nat.not_lt.2 c14)
         replace H := Option.bind_eq_some_iff.mp H; obtain ⟨t145, A150, H⟩ := H; try dsimp only at H
         have A15 := Aside0.mk A150
         clear A150
         by_cases c16 : a0_4 = t145
         ·rw [if_pos c16] at H
          have c16b0 : (a0_4 == t145) = true := beq_iff_eq.mpr c16
          have c16b1 : (a0_4 != t145) = false := bne_eq_false_iff_eq.mpr c16
          clear c16
          by_cases c17 : ((x3_1 ++ t142) ++ ((((⟨#[117]⟩ : ByteArray) ++ t143) ++ (⟨#[64]⟩ : ByteArray)) ++ t144)).size + 1 ≤ 9223372036854775807
          ·rw [if_pos c17] at H
           have c17b0 := eq_true c17
           have c17_y0 : ((9223372036854775807 < x3_1.size + t142.size + (1 + t143.size + 1 + t144.size) + 1) : Prop) = False := eq_false (by have h_ := c17; simp only [ByteArray.size_append] at h_; exact Nat.not_lt.2 h_)
           have c17_z0 : ((x3_1.size + t142.size + (1 + t143.size + 1 + t144.size) + 1 ≤ 9223372036854775807) : Prop) = True := eq_true (by have h_ := c17; simp only [ByteArray.size_append] at h_; exact h_)
           have c17b1 : decide (((x3_1 ++ t142) ++ ((((⟨#[117]⟩ : ByteArray) ++ t143) ++ (⟨#[64]⟩ : ByteArray)) ++ t144)).size + 1 ≤ 9223372036854775807) = true := decide_eq_true c17
           try have c17b2 : (9223372036854775807 < ((x3_1 ++ t142) ++ ((((⟨#[117]⟩ : ByteArray) ++ t143) ++ (⟨#[64]⟩ : ByteArray)) ++ t144)).size + 1) = False := eq_false (Nat.not_lt.2 c17)
           replace H := Option.bind_eq_some_iff.mp H; obtain ⟨t146, A180, H⟩ := H; try dsimp only at H
           have A18 := Aside0.mk A180
           clear A180
           by_cases c19 : (((x3_1 ++ t142) ++ ((((⟨#[117]⟩ : ByteArray) ++ t143) ++ (⟨#[64]⟩ : ByteArray)) ++ t144)) ++ (⟨#[32]⟩ : ByteArray)).size + t146.size ≤ 9223372036854775807
           ·rw [if_pos c19] at H
            have c19b0 := eq_true c19
            have c19_y0 : ((9223372036854775807 < x3_1.size + t142.size + (1 + t143.size + 1 + t144.size) + 1 + t146.size) : Prop) = False := eq_false (by have h_ := c19; simp only [ByteArray.size_append] at h_; exact Nat.not_lt.2 h_)
            have c19_z0 : ((x3_1.size + t142.size + (1 + t143.size + 1 + t144.size) + 1 + t146.size ≤ 9223372036854775807) : Prop) = True := eq_true (by have h_ := c19; simp only [ByteArray.size_append] at h_; exact h_)
            have c19b1 : decide ((((x3_1 ++ t142) ++ ((((⟨#[117]⟩ : ByteArray) ++ t143) ++ (⟨#[64]⟩ : ByteArray)) ++ t144)) ++ (⟨#[32]⟩ : ByteArray)).size + t146.size ≤ 9223372036854775807) = true := decide_eq_true c19
            try have c19b2 : (9223372036854775807 < (((x3_1 ++ t142) ++ ((((⟨#[117]⟩ : ByteArray) ++ t143) ++ (⟨#[64]⟩ : ByteArray)) ++ t144)) ++ (⟨#[32]⟩ : ByteArray)).size + t146.size) = False := eq_false (Nat.not_lt.2 c19)
            by_cases c20 : ((((x3_1 ++ t142) ++ ((((⟨#[117]⟩ : ByteArray) ++ t143) ++ (⟨#[64]⟩ : ByteArray)) ++ t144)) ++ (⟨#[32]⟩ : ByteArray)) ++ t146).size + 2 ≤ 9223372036854775807
            ·rw [if_pos c20] at H
             have c20b0 := eq_true c20
             have c20_y0 : ((9223372036854775807 < x3_1.size + t142.size + (1 + t143.size + 1 + t144.size) + 1 + t146.size + 2) : Prop) = False := eq_false (by have h_ := c20; simp only [ByteArray.size_append] at h_; exact Nat.not_lt.2 h_)
             have c20_z0 : ((x3_1.size + t142.size + (1 + t143.size + 1 + t144.size) + 1 + t146.size + 2 ≤ 9223372036854775807) : Prop) = True := eq_true (by have h_ := c20; simp only [ByteArray.size_append] at h_; exact h_)
             have c20b1 : decide (((((x3_1 ++ t142) ++ ((((⟨#[117]⟩ : ByteArray) ++ t143) ++ (⟨#[64]⟩ : ByteArray)) ++ t144)) ++ (⟨#[32]⟩ : ByteArray)) ++ t146).size + 2 ≤ 9223372036854775807) = true := decide_eq_true c20
             try have c20b2 : (9223372036854775807 < ((((x3_1 ++ t142) ++ ((((⟨#[117]⟩ : ByteArray) ++ t143) ++ (⟨#[64]⟩ : ByteArray)) ++ t144)) ++ (⟨#[32]⟩ : ByteArray)) ++ t146).size + 2) = False := eq_false (Nat.not_lt.2 c20)
             replace H := Option.bind_eq_some_iff.mp H; obtain ⟨t147, A210, H⟩ := H; try dsimp only at H
             have A21 := Aside0.mk A210
             clear A210
             by_cases c22 : (((((x3_1 ++ t142) ++ ((((⟨#[117]⟩ : ByteArray) ++ t143) ++ (⟨#[64]⟩ : ByteArray)) ++ t144)) ++ (⟨#[32]⟩ : ByteArray)) ++ t146) ++ (⟨#[46, 46]⟩ : ByteArray)).size + t147.size ≤ 9223372036854775807
             ·rw [if_pos c22] at H
              have c22b0 := eq_true c22
              have c22_y0 : ((9223372036854775807 < x3_1.size + t142.size + (1 + t143.size + 1 + t144.size) + 1 + t146.size + 2 + t147.size) : Prop) = False := eq_false (by have h_ := c22; simp only [ByteArray.size_append] at h_; exact Nat.not_lt.2 h_)
              have c22_z0 : ((x3_1.size + t142.size + (1 + t143.size + 1 + t144.size) + 1 + t146.size + 2 + t147.size ≤ 9223372036854775807) : Prop) = True := eq_true (by have h_ := c22; simp only [ByteArray.size_append] at h_; exact h_)
              have c22b1 : decide ((((((x3_1 ++ t142) ++ ((((⟨#[117]⟩ : ByteArray) ++ t143) ++ (⟨#[64]⟩ : ByteArray)) ++ t144)) ++ (⟨#[32]⟩ : ByteArray)) ++ t146) ++ (⟨#[46, 46]⟩ : ByteArray)).size + t147.size ≤ 9223372036854775807) = true := decide_eq_true c22
              try have c22b2 : (9223372036854775807 < (((((x3_1 ++ t142) ++ ((((⟨#[117]⟩ : ByteArray) ++ t143) ++ (⟨#[64]⟩ : ByteArray)) ++ t144)) ++ (⟨#[32]⟩ : ByteArray)) ++ t146) ++ (⟨#[46, 46]⟩ : ByteArray)).size + t147.size) = False := eq_false (Nat.not_lt.2 c22)
              obtain rfl := Option.some.inj H
              have hcz23 := blk_all7 BK141.out
              try go_wp2_with (first | ((with_reducible refine gate_callee (f := 35) rfl ?_); refine sh_call (some 9) Tryd.func35 #[.int .i64 a0_1] ?_; (with_reducible refine (rule_of.calls a0_1 t142 _ A6.out).mono ?_); rintro e w24 ⟨rfl, hb⟩; refine ⟨_, rfl, ?_⟩; replace BK141 := sh_k BK141 hb; replace HB := sh_b (w := w) hb; (try clear hb); (try clear hb2); (try clear hk); (try clear hi); have hcz25 := blk_all7 BK141.out))
              have n0_ := Aside0.mk (blk_drew BK141.out)
              have n1_ := Aside0.mk (below_drew1 HB.out)
              clear BK141
              clear HB
              have BK141 := n0_
              have HB := n1_
              clear n0_ n1_
              refine start_ (n := 13) (S := fun w' => w'.cell? ⟨gb141, 0, none⟩ = some (.bool a0_0) ∧ w'.cell? ⟨gb141, 1, none⟩ = some (.int .i64 a0_1) ∧ w'.cell? ⟨gb141, 2, none⟩ = some (.int .i64 a0_2) ∧ w'.cell? ⟨gb141, 3, none⟩ = some (.int .i64 a0_3) ∧ w'.cell? ⟨gb141, 4, none⟩ = some (.int .u64 a0_4) ∧ w'.cell? ⟨gb141, 5, none⟩ = some (.int .u64 a0_5) ∧ w'.cell? ⟨gb141, 6, none⟩ = some (.int .u64 a0_6)) (ds := []) (fl 0 13) (by kernel_rfl) rfl rfl ⟨(blk_cell BK141.out 0).trans rfl, (blk_cell BK141.out 1).trans rfl, (blk_cell BK141.out 2).trans rfl, (blk_cell BK141.out 3).trans rfl, (blk_cell BK141.out 4).trans rfl, (blk_cell BK141.out 5).trans rfl, (blk_cell BK141.out 6).trans rfl⟩ (fun hHeld => ?_); refine with_tabW rule_text.tab6 rule_text.bits6 (fun HT_ HW_ => ?_)
              generalize w24.drew = w26 at BK141 HB hHeld ⊢
              refine pure_ (i := 0) (N := some 15) (v := ?_) (a' := ?_) (fl 1 12) rfl rfl (any_of HT_.out (by kernel_rfl)) (fun _ _ _ h => h) (Or.inl ⟨by rfl, ?_⟩) ?_ ?_
              rotate_left; exact ga_; rotate_left; exact gb_
              refine pure_ (i := 1) (N := some 16) (v := ?_) (a' := ?_) (fl 2 11) rfl rfl (any_of HT_.out (by kernel_rfl)) (fun _ _ _ h => h) (Or.inl ⟨by rfl, ?_⟩) ?_ ?_
              rotate_left; exact ga_; rotate_left; exact gb_
              refine pure_ (i := 7) (N := some 22) (v := ?_) (a' := ?_) (fm 13 131) rfl rfl (any_of HT_.out (by kernel_rfl)) (fun _ _ _ h => h) (Or.inl ⟨by rfl, ?_⟩) ?_ ?_
              rotate_left; exact ga_; rotate_left; exact gb_
              refine take_ (i := 2) (N := some 17) (v := ?_) (a' := ?_) (fm 13 135) rfl rfl (take_ofW HT_.out HW_.out (by kernel_rfl)) (fun _ _ _ h => h) (Or.inl ⟨by rfl, ?_⟩) hHeld ?_ ?_
              rotate_left; exact ga7_; rotate_left; exact gb_
              refine pure_ (i := 3) (N := some 18) (v := ?_) (a' := ?_) (fm 13 143) rfl rfl (any_of HT_.out (by kernel_rfl)) (fun _ _ _ h => h) (Or.inl ⟨by rfl, ?_⟩) ?_ ?_
              rotate_left; exact ga_; rotate_left; exact gb_
              refine take_ (i := 8) (N := some 23) (v := ?_) (a' := ?_) (fm 13 399) rfl rfl (take_ofW HT_.out HW_.out (by kernel_rfl)) (fun _ _ _ h => h) (Or.inl ⟨by rfl, ?_⟩) hHeld ?_ ?_
              rotate_left; exact ga7_; rotate_left; exact gb_
              refine one_ (i := 4) (N := some 19) (fm 13 415) rfl rfl (one_of HT_.out (by kernel_rfl)) (by decide) (fun K hK => ?_)
              refine goes_ Tryd.func63 (by kernel_rfl) rfl #[.int .i64 (wrap64 (8 * a0_3))] (by rfl) rfl rfl (by (try simp only [List.map_toArray, List.map_cons, List.map_nil]); first | done | rfl | (simp only [List.length_drop, List.length_take]; rfl)) ?_
              with_reducible refine (strconv_Itoa_63.calls (wrap64 (8 * a0_3)) t143 _ ?side1 A9.out).mono ?_
              (case side1 => repeat (first | exact (Kd.C_below HRG0.out HB.out) | (with_reducible refine Kd.C_alloc ?_ _) | (with_reducible refine Kd.C_drewN ?_ _) | (with_reducible refine Kd.C_drew ?_)))
              rintro e w27 ⟨rfl, hb⟩
              refine ⟨_, rfl, ?_⟩
              have n0_ := Aside0.mk (blk_below (g := gb141) (o := .cells #[.bool a0_0, .int .i64 a0_1, .int .i64 a0_2, .int .i64 a0_3, .int .u64 a0_4, .int .u64 a0_5, .int .u64 a0_6] 50 (0, 0)) bk_now hb)
              have n1_ := Aside0.mk (below_step b_now hb)
              clear BK141
              clear HB
              have BK141 := n0_
              have HB := n1_
              clear n0_ n1_
              (try clear hb)
              (try clear hb2)
              (try clear hk)
              (try clear hi)
              refine hK.out _ _ ⟨(blk_cell BK141.out 0).trans rfl, (blk_cell BK141.out 1).trans rfl, (blk_cell BK141.out 2).trans rfl, (blk_cell BK141.out 3).trans rfl, (blk_cell BK141.out 4).trans rfl, (blk_cell BK141.out 5).trans rfl, (blk_cell BK141.out 6).trans rfl⟩ (fun hHeld => ?_)
              clear hK K
              refine norm_ (a' := ?_) ?_ ?_
              rotate_left
              ·show Act.put _ (some 19) _ = _
               simp only [Act.put, List.setIfInBounds_toArray, List.set_cons_zero, List.set_cons_succ, i64_w, i32_w]
               rfl
              refine pure_ (i := 5) (N := some 20) (v := ?_) (a' := ?_) (fm 13 447) rfl rfl (any_of HT_.out (by kernel_rfl)) (fun _ _ _ h => h) (Or.inl ⟨by rfl, ?_⟩) ?_ ?_
              rotate_left; exact ga_; rotate_left; exact gb_
              refine pure_ (i := 6) (N := some 21) (v := ?_) (a' := ?_) (fl 9 4) rfl rfl (any_of HT_.out (by kernel_rfl)) (fun _ _ _ h => h) (Or.inl ⟨by rfl, ?_⟩) ?_ ?_
              rotate_left; exact ga_; rotate_left; exact gb_
              refine one_ (i := 9) (N := some 24) (fl 10 3) rfl rfl (one_of HT_.out (by kernel_rfl)) (by decide) (fun K hK => ?_)
              refine goes_ Tryd.func63 (by kernel_rfl) rfl #[.int .i64 a0_2] (by rfl) rfl rfl (by (try simp only [List.map_toArray, List.map_cons, List.map_nil]); first | done | rfl | (simp only [List.length_drop, List.length_take]; rfl)) ?_
              with_reducible refine (strconv_Itoa_63.calls a0_2 t144 _ ?side1 A12.out).mono ?_
              (case side1 => repeat (first | exact (Kd.C_below HRG0.out HB.out) | (with_reducible refine Kd.C_alloc ?_ _) | (with_reducible refine Kd.C_drewN ?_ _) | (with_reducible refine Kd.C_drew ?_)))
              rintro e w28 ⟨rfl, hb⟩
              refine ⟨_, rfl, ?_⟩
              have n0_ := Aside0.mk (blk_below (g := gb141) (o := .cells #[.bool a0_0, .int .i64 a0_1, .int .i64 a0_2, .int .i64 a0_3, .int .u64 a0_4, .int .u64 a0_5, .int .u64 a0_6] 50 (0, 0)) bk_now hb)
              have n1_ := Aside0.mk (below_step b_now hb)
              clear BK141
              clear HB
              have BK141 := n0_
              have HB := n1_
              clear n0_ n1_
              (try clear hb)
              (try clear hb2)
              (try clear hk)
              (try clear hi)
              refine hK.out _ _ ⟨(blk_cell BK141.out 0).trans rfl, (blk_cell BK141.out 1).trans rfl, (blk_cell BK141.out 2).trans rfl, (blk_cell BK141.out 3).trans rfl, (blk_cell BK141.out 4).trans rfl, (blk_cell BK141.out 5).trans rfl, (blk_cell BK141.out 6).trans rfl⟩ (fun hHeld => ?_)
              clear hK K
              refine norm_ (a' := ?_) ?_ ?_
              rotate_left
              ·show Act.put _ (some 24) _ = _
               simp only [Act.put, List.setIfInBounds_toArray, List.set_cons_zero, List.set_cons_succ, i64_w, i32_w]
               rfl
              refine pure_ (i := 10) (N := some 25) (v := ?_) (a' := ?_) (fl 11 2) rfl rfl (any_of HT_.out (by kernel_rfl)) (fun _ _ _ h => h) (Or.inl ⟨by rfl, ?_⟩) ?_ ?_
              rotate_left; exact ga_; rotate_left; exact gb_
              refine pure_ (i := 11) (N := some 26) (v := ?_) (a' := ?_) (fl 12 1) rfl rfl (any_of HT_.out (by kernel_rfl)) (fun _ _ _ h => h) (Or.inl ⟨by rfl, ?_⟩) ?_ ?_
              rotate_left; exact ga_; rotate_left; exact gb_
              refine pure_ (i := 12) (N := some 3) (v := ?_) (a' := ?_) (fl 13 0) rfl rfl (any_of HT_.out (by kernel_rfl)) (fun _ _ _ h => h) (Or.inl ⟨by rfl, ?_⟩) ?_ ?_
              rotate_left; exact ga_; rotate_left; exact gb_
              refine done_ (done_of HT_.out (by kernel_rfl)) ?_
              try go_wp2
              have n0_ := Aside0.mk (blk_drew BK141.out)
              have n1_ := Aside0.mk (below_drew1 HB.out)
              clear BK141
              clear HB
              have BK141 := n0_
              have HB := n1_
              clear n0_ n1_
              refine start_ (n := 6) (S := fun w' => w'.cell? ⟨gb141, 0, none⟩ = some (.bool a0_0) ∧ w'.cell? ⟨gb141, 1, none⟩ = some (.int .i64 a0_1) ∧ w'.cell? ⟨gb141, 2, none⟩ = some (.int .i64 a0_2) ∧ w'.cell? ⟨gb141, 3, none⟩ = some (.int .i64 a0_3) ∧ w'.cell? ⟨gb141, 4, none⟩ = some (.int .u64 a0_4) ∧ w'.cell? ⟨gb141, 5, none⟩ = some (.int .u64 a0_5) ∧ w'.cell? ⟨gb141, 6, none⟩ = some (.int .u64 a0_6)) (ds := []) (fl 0 6) (by kernel_rfl) rfl rfl ⟨(blk_cell BK141.out 0).trans rfl, (blk_cell BK141.out 1).trans rfl, (blk_cell BK141.out 2).trans rfl, (blk_cell BK141.out 3).trans rfl, (blk_cell BK141.out 4).trans rfl, (blk_cell BK141.out 5).trans rfl, (blk_cell BK141.out 6).trans rfl⟩ (fun hHeld => ?_)
              generalize w28.drew = w29 at BK141 HB hHeld ⊢
              refine pure_ (i := 0) (N := some 27) (v := ?_) (a' := ?_) (fl 1 5) rfl rfl (by kernel_rfl) (fun _ _ _ h => h) (Or.inl ⟨by rfl, ?_⟩) ?_ ?_
              rotate_left; exact ga_; rotate_left; exact gb_
              refine pure_ (i := 2) (N := some 29) (v := ?_) (a' := ?_) (fm 6 5) rfl rfl (by kernel_rfl) (fun _ _ _ h => h) (Or.inl ⟨by rfl, ?_⟩) ?_ ?_
              rotate_left; exact ga_; rotate_left; exact gb_
              refine take_ (i := 1) (N := some 28) (v := ?_) (a' := ?_) (fl 3 3) rfl rfl (by kernel_rfl) (fun _ _ _ h => h) (Or.inl ⟨by rfl, ?_⟩) hHeld ?_ ?_
              rotate_left; exact ga7_; rotate_left; exact gb_
              refine take_ (i := 3) (N := some 30) (v := ?_) (a' := ?_) (fl 4 2) rfl rfl (by kernel_rfl) (fun _ _ _ h => h) (Or.inl ⟨by rfl, ?_⟩) hHeld ?_ ?_
              rotate_left; exact ga7_; rotate_left; exact gb_
              refine one_ (i := 4) (N := some 31) (fl 5 1) rfl rfl (by kernel_rfl) (by decide) (fun K hK => ?_)
              refine goes_ Tryd.func42 (by kernel_rfl) rfl #[.int .i64 a0_3] (by rfl) rfl rfl (by (try simp only [List.map_toArray, List.map_cons, List.map_nil]); first | done | rfl | (simp only [List.length_drop, List.length_take]; rfl)) ?_
              with_reducible refine (rule_full.calls a0_3 t145 _ A15.out).mono ?_
              rintro e w' ⟨rfl, ⟨nd, rfl⟩⟩
              refine ⟨_, rfl, ?_⟩
              refine hK.out _ _ ⟨(blk_cell BK141.out 0).trans rfl, (blk_cell BK141.out 1).trans rfl, (blk_cell BK141.out 2).trans rfl, (blk_cell BK141.out 3).trans rfl, (blk_cell BK141.out 4).trans rfl, (blk_cell BK141.out 5).trans rfl, (blk_cell BK141.out 6).trans rfl⟩ (fun hHeld => ?_)
              clear hK K
              refine norm_ (a' := ?_) ?_ ?_
              rotate_left
              ·show Act.put _ (some 31) _ = _
               simp only [Act.put, List.setIfInBounds_toArray, List.set_cons_zero, List.set_cons_succ, i64_w, i32_w]
               rfl
              refine pure_ (i := 5) (N := some 32) (v := ?_) (a' := ?_) (fl 6 0) rfl rfl (by kernel_rfl) (fun _ _ _ h => h) (Or.inl ⟨by rfl, ?_⟩) ?_ ?_
              rotate_left; exact ga_; rotate_left; exact gb_
              refine done_ (by kernel_rfl) ?_
              try go_wp2
              (try (rw [drewN_self w29]; generalize hq_ : World.drewN w29 _ = w29; have n0_ : Aside0 (w29.heap[gb141]? = some (.cells #[.bool a0_0, .int .i64 a0_1, .int .i64 a0_2, .int .i64 a0_3, .int .u64 a0_4, .int .u64 a0_5, .int .u64 a0_6] 50 (0, 0))) := ⟨by rw [← hq_]; exact bk_now⟩; have n1_ : Aside0 (Below w.heap.size w w29) := ⟨by rw [← hq_]; exact b_now⟩; clear BK141 HB hq_; have BK141 := n0_; have HB := n1_; clear n0_ n1_))
              have n0_ := Aside0.mk (blk_drew BK141.out)
              have n1_ := Aside0.mk (below_drew1 HB.out)
              clear BK141
              clear HB
              have BK141 := n0_
              have HB := n1_
              clear n0_ n1_
              refine start_ (n := 12) (S := fun w' => w'.cell? ⟨gb141, 0, none⟩ = some (.bool a0_0) ∧ w'.cell? ⟨gb141, 1, none⟩ = some (.int .i64 a0_1) ∧ w'.cell? ⟨gb141, 2, none⟩ = some (.int .i64 a0_2) ∧ w'.cell? ⟨gb141, 3, none⟩ = some (.int .i64 a0_3) ∧ w'.cell? ⟨gb141, 4, none⟩ = some (.int .u64 a0_4) ∧ w'.cell? ⟨gb141, 5, none⟩ = some (.int .u64 a0_5) ∧ w'.cell? ⟨gb141, 6, none⟩ = some (.int .u64 a0_6)) (ds := []) (fl 0 12) (by kernel_rfl) rfl rfl ⟨(blk_cell BK141.out 0).trans rfl, (blk_cell BK141.out 1).trans rfl, (blk_cell BK141.out 2).trans rfl, (blk_cell BK141.out 3).trans rfl, (blk_cell BK141.out 4).trans rfl, (blk_cell BK141.out 5).trans rfl, (blk_cell BK141.out 6).trans rfl⟩ (fun hHeld => ?_); refine with_tabW rule_text.tab9 rule_text.bits9 (fun HT_ HW_ => ?_)
              generalize w29.drew = w30 at BK141 HB hHeld ⊢
              refine pure_ (i := 0) (N := some 39) (v := ?_) (a' := ?_) (fl 1 11) rfl rfl (any_of HT_.out (by kernel_rfl)) (fun _ _ _ h => h) (Or.inl ⟨by rfl, ?_⟩) ?_ ?_
              rotate_left; exact ga_; rotate_left; exact gb_
              refine pure_ (i := 1) (N := some 40) (v := ?_) (a' := ?_) (fl 2 10) rfl rfl (any_of HT_.out (by kernel_rfl)) (fun _ _ _ h => h) (Or.inl ⟨by rfl, ?_⟩) ?_ ?_
              rotate_left; exact ga_; rotate_left; exact gb_
              refine pure_ (i := 2) (N := some 41) (v := ?_) (a' := ?_) (fl 3 9) rfl rfl (any_of HT_.out (by kernel_rfl)) (fun _ _ _ h => h) (Or.inl ⟨by rfl, ?_⟩) ?_ ?_
              rotate_left; exact ga_; rotate_left; exact gb_
              refine pure_ (i := 7) (N := some 46) (v := ?_) (a' := ?_) (fm 12 135) rfl rfl (any_of HT_.out (by kernel_rfl)) (fun _ _ _ h => h) (Or.inl ⟨by rfl, ?_⟩) ?_ ?_
              rotate_left; exact ga_; rotate_left; exact gb_
              refine take_ (i := 3) (N := some 42) (v := ?_) (a' := ?_) (fm 12 143) rfl rfl (take_ofW HT_.out HW_.out (by kernel_rfl)) (fun _ _ _ h => h) (Or.inl ⟨by rfl, ?_⟩) hHeld ?_ ?_
              rotate_left; exact ga7_; rotate_left; exact gb_
              refine take_ (i := 8) (N := some 47) (v := ?_) (a' := ?_) (fm 12 399) rfl rfl (take_ofW HT_.out HW_.out (by kernel_rfl)) (fun _ _ _ h => h) (Or.inl ⟨by rfl, ?_⟩) hHeld ?_ ?_
              rotate_left; exact ga7_; rotate_left; exact gb_
              refine one_ (i := 4) (N := some 43) (fm 12 415) rfl rfl (one_of HT_.out (by kernel_rfl)) (by decide) (fun K hK => ?_)
              refine goes_ Tryd.func47 (by kernel_rfl) rfl #[.int .u64 a0_5] (by rfl) rfl rfl (by (try simp only [List.map_toArray, List.map_cons, List.map_nil]); first | done | rfl | (simp only [List.length_drop, List.length_take]; rfl)) ?_
              with_reducible refine (rule_digits.calls a0_5 t146 _ ?side1 A18.out).mono ?_
              (case side1 => repeat (first | exact (Kd.C_below HRG0.out HB.out) | (with_reducible refine Kd.C_alloc ?_ _) | (with_reducible refine Kd.C_drewN ?_ _) | (with_reducible refine Kd.C_drew ?_)))
              rintro e w31 ⟨rfl, hb⟩
              refine ⟨_, rfl, ?_⟩
              have n0_ := Aside0.mk (blk_below (g := gb141) (o := .cells #[.bool a0_0, .int .i64 a0_1, .int .i64 a0_2, .int .i64 a0_3, .int .u64 a0_4, .int .u64 a0_5, .int .u64 a0_6] 50 (0, 0)) bk_now hb)
              have n1_ := Aside0.mk (below_step b_now hb)
              clear BK141
              clear HB
              have BK141 := n0_
              have HB := n1_
              clear n0_ n1_
              (try clear hb)
              (try clear hb2)
              (try clear hk)
              (try clear hi)
              refine hK.out _ _ ⟨(blk_cell BK141.out 0).trans rfl, (blk_cell BK141.out 1).trans rfl, (blk_cell BK141.out 2).trans rfl, (blk_cell BK141.out 3).trans rfl, (blk_cell BK141.out 4).trans rfl, (blk_cell BK141.out 5).trans rfl, (blk_cell BK141.out 6).trans rfl⟩ (fun hHeld => ?_)
              clear hK K
              refine norm_ (a' := ?_) ?_ ?_
              rotate_left
              ·show Act.put _ (some 43) _ = _
               simp only [Act.put, List.setIfInBounds_toArray, List.set_cons_zero, List.set_cons_succ, i64_w, i32_w]
               rfl
              refine pure_ (i := 5) (N := some 44) (v := ?_) (a' := ?_) (fm 12 447) rfl rfl (any_of HT_.out (by kernel_rfl)) (fun _ _ _ h => h) (Or.inl ⟨by rfl, ?_⟩) ?_ ?_
              rotate_left; exact ga_; rotate_left; exact gb_
              refine pure_ (i := 6) (N := some 45) (v := ?_) (a' := ?_) (fl 9 3) rfl rfl (any_of HT_.out (by kernel_rfl)) (fun _ _ _ h => h) (Or.inl ⟨by rfl, ?_⟩) ?_ ?_
              rotate_left; exact ga_; rotate_left; exact gb_
              refine one_ (i := 9) (N := some 48) (fl 10 2) rfl rfl (one_of HT_.out (by kernel_rfl)) (by decide) (fun K hK => ?_)
              refine goes_ Tryd.func47 (by kernel_rfl) rfl #[.int .u64 a0_6] (by rfl) rfl rfl (by (try simp only [List.map_toArray, List.map_cons, List.map_nil]); first | done | rfl | (simp only [List.length_drop, List.length_take]; rfl)) ?_
              with_reducible refine (rule_digits.calls a0_6 t147 _ ?side1 A21.out).mono ?_
              (case side1 => repeat (first | exact (Kd.C_below HRG0.out HB.out) | (with_reducible refine Kd.C_alloc ?_ _) | (with_reducible refine Kd.C_drewN ?_ _) | (with_reducible refine Kd.C_drew ?_)))
              rintro e w32 ⟨rfl, hb⟩
              refine ⟨_, rfl, ?_⟩
              have n0_ := Aside0.mk (blk_below (g := gb141) (o := .cells #[.bool a0_0, .int .i64 a0_1, .int .i64 a0_2, .int .i64 a0_3, .int .u64 a0_4, .int .u64 a0_5, .int .u64 a0_6] 50 (0, 0)) bk_now hb)
              have n1_ := Aside0.mk (below_step b_now hb)
              clear BK141
              clear HB
              have BK141 := n0_
              have HB := n1_
              clear n0_ n1_
              (try clear hb)
              (try clear hb2)
              (try clear hk)
              (try clear hi)
              refine hK.out _ _ ⟨(blk_cell BK141.out 0).trans rfl, (blk_cell BK141.out 1).trans rfl, (blk_cell BK141.out 2).trans rfl, (blk_cell BK141.out 3).trans rfl, (blk_cell BK141.out 4).trans rfl, (blk_cell BK141.out 5).trans rfl, (blk_cell BK141.out 6).trans rfl⟩ (fun hHeld => ?_)
              clear hK K
              refine norm_ (a' := ?_) ?_ ?_
              rotate_left
              ·show Act.put _ (some 48) _ = _
               simp only [Act.put, List.setIfInBounds_toArray, List.set_cons_zero, List.set_cons_succ, i64_w, i32_w]
               rfl
              refine pure_ (i := 10) (N := some 49) (v := ?_) (a' := ?_) (fl 11 1) rfl rfl (any_of HT_.out (by kernel_rfl)) (fun _ _ _ h => h) (Or.inl ⟨by rfl, ?_⟩) ?_ ?_
              rotate_left; exact ga_; rotate_left; exact gb_
              refine pure_ (i := 11) (N := some 2) (v := ?_) (a' := ?_) (fl 12 0) rfl rfl (any_of HT_.out (by kernel_rfl)) (fun _ _ _ h => h) (Or.inl ⟨by rfl, ?_⟩) ?_ ?_
              rotate_left; exact ga_; rotate_left; exact gb_
              refine done_ (done_of HT_.out (by kernel_rfl)) ?_
              try go_wp2
              go_ret
              exact ⟨ret_now, b_now⟩
             ·rw [if_neg c22] at H
              exact absurd H (by simp)
            ·rw [if_neg c20] at H
             exact absurd H (by simp)
           ·rw [if_neg c19] at H
            exact absurd H (by simp)
          ·rw [if_neg c17] at H
           exact absurd H (by simp)
         ·rw [if_neg c16] at H
          have c16b0 : (a0_4 == t145) = false := beq_eq_false_iff_ne.mpr c16
          have c16b1 : (a0_4 != t145) = true := bne_iff_ne.mpr c16
          replace H := Option.bind_eq_some_iff.mp H; obtain ⟨t148, A330, H⟩ := H; try dsimp only at H
          have A33 := Aside0.mk A330
          clear A330
          by_cases c34 : 1 + t148.size ≤ 9223372036854775807
          ·rw [if_pos c34] at H
           have c34b0 := eq_true c34
           have c34b1 : decide (1 + t148.size ≤ 9223372036854775807) = true := decide_eq_true c34
           try have c34b2 : (9223372036854775807 < 1 + t148.size) = False := eq_false (Nat.not_lt.2 c34)
           by_cases c35 : ((x3_1 ++ t142) ++ ((((⟨#[117]⟩ : ByteArray) ++ t143) ++ (⟨#[64]⟩ : ByteArray)) ++ t144)).size + ((⟨#[47]⟩ : ByteArray) ++ t148).size ≤ 9223372036854775807
           ·rw [if_pos c35] at H
            have c35b0 := eq_true c35
            have c35_y0 : ((9223372036854775807 < x3_1.size + t142.size + (1 + t143.size + 1 + t144.size) + (1 + t148.size)) : Prop) = False := eq_false (by have h_ := c35; simp only [ByteArray.size_append] at h_; exact Nat.not_lt.2 h_)
            have c35_z0 : ((x3_1.size + t142.size + (1 + t143.size + 1 + t144.size) + (1 + t148.size) ≤ 9223372036854775807) : Prop) = True := eq_true (by have h_ := c35; simp only [ByteArray.size_append] at h_; exact h_)
            have c35b1 : decide (((x3_1 ++ t142) ++ ((((⟨#[117]⟩ : ByteArray) ++ t143) ++ (⟨#[64]⟩ : ByteArray)) ++ t144)).size + ((⟨#[47]⟩ : ByteArray) ++ t148).size ≤ 9223372036854775807) = true := decide_eq_true c35
            try have c35b2 : (9223372036854775807 < ((x3_1 ++ t142) ++ ((((⟨#[117]⟩ : ByteArray) ++ t143) ++ (⟨#[64]⟩ : ByteArray)) ++ t144)).size + ((⟨#[47]⟩ : ByteArray) ++ t148).size) = False := eq_false (Nat.not_lt.2 c35)
            by_cases c36 : (((x3_1 ++ t142) ++ ((((⟨#[117]⟩ : ByteArray) ++ t143) ++ (⟨#[64]⟩ : ByteArray)) ++ t144)) ++ ((⟨#[47]⟩ : ByteArray) ++ t148)).size + 1 ≤ 9223372036854775807
            ·rw [if_pos c36] at H
             have c36b0 := eq_true c36
             have c36_y0 : ((9223372036854775807 < x3_1.size + t142.size + (1 + t143.size + 1 + t144.size) + (1 + t148.size) + 1) : Prop) = False := eq_false (by have h_ := c36; simp only [ByteArray.size_append] at h_; exact Nat.not_lt.2 h_)
             have c36_z0 : ((x3_1.size + t142.size + (1 + t143.size + 1 + t144.size) + (1 + t148.size) + 1 ≤ 9223372036854775807) : Prop) = True := eq_true (by have h_ := c36; simp only [ByteArray.size_append] at h_; exact h_)
             have c36b1 : decide ((((x3_1 ++ t142) ++ ((((⟨#[117]⟩ : ByteArray) ++ t143) ++ (⟨#[64]⟩ : ByteArray)) ++ t144)) ++ ((⟨#[47]⟩ : ByteArray) ++ t148)).size + 1 ≤ 9223372036854775807) = true := decide_eq_true c36
             try have c36b2 : (9223372036854775807 < (((x3_1 ++ t142) ++ ((((⟨#[117]⟩ : ByteArray) ++ t143) ++ (⟨#[64]⟩ : ByteArray)) ++ t144)) ++ ((⟨#[47]⟩ : ByteArray) ++ t148)).size + 1) = False := eq_false (Nat.not_lt.2 c36)
             replace H := Option.bind_eq_some_iff.mp H; obtain ⟨t149, A370, H⟩ := H; try dsimp only at H
             have A37 := Aside0.mk A370
             clear A370
             by_cases c38 : ((((x3_1 ++ t142) ++ ((((⟨#[117]⟩ : ByteArray) ++ t143) ++ (⟨#[64]⟩ : ByteArray)) ++ t144)) ++ ((⟨#[47]⟩ : ByteArray) ++ t148)) ++ (⟨#[32]⟩ : ByteArray)).size + t149.size ≤ 9223372036854775807
             ·rw [if_pos c38] at H
              have c38b0 := eq_true c38
              have c38_y0 : ((9223372036854775807 < x3_1.size + t142.size + (1 + t143.size + 1 + t144.size) + (1 + t148.size) + 1 + t149.size) : Prop) = False := eq_false (by have h_ := c38; simp only [ByteArray.size_append] at h_; exact Nat.not_lt.2 h_)
              have c38_z0 : ((x3_1.size + t142.size + (1 + t143.size + 1 + t144.size) + (1 + t148.size) + 1 + t149.size ≤ 9223372036854775807) : Prop) = True := eq_true (by have h_ := c38; simp only [ByteArray.size_append] at h_; exact h_)
              have c38b1 : decide (((((x3_1 ++ t142) ++ ((((⟨#[117]⟩ : ByteArray) ++ t143) ++ (⟨#[64]⟩ : ByteArray)) ++ t144)) ++ ((⟨#[47]⟩ : ByteArray) ++ t148)) ++ (⟨#[32]⟩ : ByteArray)).size + t149.size ≤ 9223372036854775807) = true := decide_eq_true c38
              try have c38b2 : (9223372036854775807 < ((((x3_1 ++ t142) ++ ((((⟨#[117]⟩ : ByteArray) ++ t143) ++ (⟨#[64]⟩ : ByteArray)) ++ t144)) ++ ((⟨#[47]⟩ : ByteArray) ++ t148)) ++ (⟨#[32]⟩ : ByteArray)).size + t149.size) = False := eq_false (Nat.not_lt.2 c38)
              by_cases c39 : (((((x3_1 ++ t142) ++ ((((⟨#[117]⟩ : ByteArray) ++ t143) ++ (⟨#[64]⟩ : ByteArray)) ++ t144)) ++ ((⟨#[47]⟩ : ByteArray) ++ t148)) ++ (⟨#[32]⟩ : ByteArray)) ++ t149).size + 2 ≤ 9223372036854775807
              ·rw [if_pos c39] at H
               have c39b0 := eq_true c39
               have c39_y0 : ((9223372036854775807 < x3_1.size + t142.size + (1 + t143.size + 1 + t144.size) + (1 + t148.size) + 1 + t149.size + 2) : Prop) = False := eq_false (by have h_ := c39; simp only [ByteArray.size_append] at h_; exact Nat.not_lt.2 h_)
               have c39_z0 : ((x3_1.size + t142.size + (1 + t143.size + 1 + t144.size) + (1 + t148.size) + 1 + t149.size + 2 ≤ 9223372036854775807) : Prop) = True := eq_true (by have h_ := c39; simp only [ByteArray.size_append] at h_; exact h_)
               have c39b1 : decide ((((((x3_1 ++ t142) ++ ((((⟨#[117]⟩ : ByteArray) ++ t143) ++ (⟨#[64]⟩ : ByteArray)) ++ t144)) ++ ((⟨#[47]⟩ : ByteArray) ++ t148)) ++ (⟨#[32]⟩ : ByteArray)) ++ t149).size + 2 ≤ 9223372036854775807) = true := decide_eq_true c39
               try have c39b2 : (9223372036854775807 < (((((x3_1 ++ t142) ++ ((((⟨#[117]⟩ : ByteArray) ++ t143) ++ (⟨#[64]⟩ : ByteArray)) ++ t144)) ++ ((⟨#[47]⟩ : ByteArray) ++ t148)) ++ (⟨#[32]⟩ : ByteArray)) ++ t149).size + 2) = False := eq_false (Nat.not_lt.2 c39)
               replace H := Option.bind_eq_some_iff.mp H; obtain ⟨t150, A400, H⟩ := H; try dsimp only at H
               have A40 := Aside0.mk A400
               clear A400
               by_cases c41 : ((((((x3_1 ++ t142) ++ ((((⟨#[117]⟩ : ByteArray) ++ t143) ++ (⟨#[64]⟩ : ByteArray)) ++ t144)) ++ ((⟨#[47]⟩ : ByteArray) ++ t148)) ++ (⟨#[32]⟩ : ByteArray)) ++ t149) ++ (⟨#[46, 46]⟩ : ByteArray)).size + t150.size ≤ 9223372036854775807
               ·rw [if_pos c41] at H
                have c41b0 := eq_true c41
                have c41_y0 : ((9223372036854775807 < x3_1.size + t142.size + (1 + t143.size + 1 + t144.size) + (1 + t148.size) + 1 + t149.size + 2 + t150.size) : Prop) = False := eq_false (by have h_ := c41; simp only [ByteArray.size_append] at h_; exact Nat.not_lt.2 h_)
                have c41_z0 : ((x3_1.size + t142.size + (1 + t143.size + 1 + t144.size) + (1 + t148.size) + 1 + t149.size + 2 + t150.size ≤ 9223372036854775807) : Prop) = True := eq_true (by have h_ := c41; simp only [ByteArray.size_append] at h_; exact h_)
                have c41b1 : decide (((((((x3_1 ++ t142) ++ ((((⟨#[117]⟩ : ByteArray) ++ t143) ++ (⟨#[64]⟩ : ByteArray)) ++ t144)) ++ ((⟨#[47]⟩ : ByteArray) ++ t148)) ++ (⟨#[32]⟩ : ByteArray)) ++ t149) ++ (⟨#[46, 46]⟩ : ByteArray)).size + t150.size ≤ 9223372036854775807) = true := decide_eq_true c41
                try have c41b2 : (9223372036854775807 < ((((((x3_1 ++ t142) ++ ((((⟨#[117]⟩ : ByteArray) ++ t143) ++ (⟨#[64]⟩ : ByteArray)) ++ t144)) ++ ((⟨#[47]⟩ : ByteArray) ++ t148)) ++ (⟨#[32]⟩ : ByteArray)) ++ t149) ++ (⟨#[46, 46]⟩ : ByteArray)).size + t150.size) = False := eq_false (Nat.not_lt.2 c41)
                obtain rfl := Option.some.inj H
                have hcz42 := blk_all7 BK141.out
                try go_wp2_with (first | ((with_reducible refine gate_callee (f := 35) rfl ?_); refine sh_call (some 9) Tryd.func35 #[.int .i64 a0_1] ?_; (with_reducible refine (rule_of.calls a0_1 t142 _ A6.out).mono ?_); rintro e w43 ⟨rfl, hb⟩; refine ⟨_, rfl, ?_⟩; replace BK141 := sh_k BK141 hb; replace HB := sh_b (w := w) hb; (try clear hb); (try clear hb2); (try clear hk); (try clear hi); have hcz44 := blk_all7 BK141.out))
                have n0_ := Aside0.mk (blk_drew BK141.out)
                have n1_ := Aside0.mk (below_drew1 HB.out)
                clear BK141
                clear HB
                have BK141 := n0_
                have HB := n1_
                clear n0_ n1_
                refine start_ (n := 13) (S := fun w' => w'.cell? ⟨gb141, 0, none⟩ = some (.bool a0_0) ∧ w'.cell? ⟨gb141, 1, none⟩ = some (.int .i64 a0_1) ∧ w'.cell? ⟨gb141, 2, none⟩ = some (.int .i64 a0_2) ∧ w'.cell? ⟨gb141, 3, none⟩ = some (.int .i64 a0_3) ∧ w'.cell? ⟨gb141, 4, none⟩ = some (.int .u64 a0_4) ∧ w'.cell? ⟨gb141, 5, none⟩ = some (.int .u64 a0_5) ∧ w'.cell? ⟨gb141, 6, none⟩ = some (.int .u64 a0_6)) (ds := []) (fl 0 13) (by kernel_rfl) rfl rfl ⟨(blk_cell BK141.out 0).trans rfl, (blk_cell BK141.out 1).trans rfl, (blk_cell BK141.out 2).trans rfl, (blk_cell BK141.out 3).trans rfl, (blk_cell BK141.out 4).trans rfl, (blk_cell BK141.out 5).trans rfl, (blk_cell BK141.out 6).trans rfl⟩ (fun hHeld => ?_); refine with_tabW rule_text.tab6 rule_text.bits6 (fun HT_ HW_ => ?_)
                generalize w43.drew = w45 at BK141 HB hHeld ⊢
                refine pure_ (i := 0) (N := some 15) (v := ?_) (a' := ?_) (fl 1 12) rfl rfl (any_of HT_.out (by kernel_rfl)) (fun _ _ _ h => h) (Or.inl ⟨by rfl, ?_⟩) ?_ ?_
                rotate_left; exact ga_; rotate_left; exact gb_
                refine pure_ (i := 1) (N := some 16) (v := ?_) (a' := ?_) (fl 2 11) rfl rfl (any_of HT_.out (by kernel_rfl)) (fun _ _ _ h => h) (Or.inl ⟨by rfl, ?_⟩) ?_ ?_
                rotate_left; exact ga_; rotate_left; exact gb_
                refine pure_ (i := 7) (N := some 22) (v := ?_) (a' := ?_) (fm 13 131) rfl rfl (any_of HT_.out (by kernel_rfl)) (fun _ _ _ h => h) (Or.inl ⟨by rfl, ?_⟩) ?_ ?_
                rotate_left; exact ga_; rotate_left; exact gb_
                refine take_ (i := 2) (N := some 17) (v := ?_) (a' := ?_) (fm 13 135) rfl rfl (take_ofW HT_.out HW_.out (by kernel_rfl)) (fun _ _ _ h => h) (Or.inl ⟨by rfl, ?_⟩) hHeld ?_ ?_
                rotate_left; exact ga7_; rotate_left; exact gb_
                refine pure_ (i := 3) (N := some 18) (v := ?_) (a' := ?_) (fm 13 143) rfl rfl (any_of HT_.out (by kernel_rfl)) (fun _ _ _ h => h) (Or.inl ⟨by rfl, ?_⟩) ?_ ?_
                rotate_left; exact ga_; rotate_left; exact gb_
                refine take_ (i := 8) (N := some 23) (v := ?_) (a' := ?_) (fm 13 399) rfl rfl (take_ofW HT_.out HW_.out (by kernel_rfl)) (fun _ _ _ h => h) (Or.inl ⟨by rfl, ?_⟩) hHeld ?_ ?_
                rotate_left; exact ga7_; rotate_left; exact gb_
                refine one_ (i := 4) (N := some 19) (fm 13 415) rfl rfl (one_of HT_.out (by kernel_rfl)) (by decide) (fun K hK => ?_)
                refine goes_ Tryd.func63 (by kernel_rfl) rfl #[.int .i64 (wrap64 (8 * a0_3))] (by rfl) rfl rfl (by (try simp only [List.map_toArray, List.map_cons, List.map_nil]); first | done | rfl | (simp only [List.length_drop, List.length_take]; rfl)) ?_
                with_reducible refine (strconv_Itoa_63.calls (wrap64 (8 * a0_3)) t143 _ ?side1 A9.out).mono ?_
                (case side1 => repeat (first | exact (Kd.C_below HRG0.out HB.out) | (with_reducible refine Kd.C_alloc ?_ _) | (with_reducible refine Kd.C_drewN ?_ _) | (with_reducible refine Kd.C_drew ?_)))
                rintro e w46 ⟨rfl, hb⟩
                refine ⟨_, rfl, ?_⟩
                have n0_ := Aside0.mk (blk_below (g := gb141) (o := .cells #[.bool a0_0, .int .i64 a0_1, .int .i64 a0_2, .int .i64 a0_3, .int .u64 a0_4, .int .u64 a0_5, .int .u64 a0_6] 50 (0, 0)) bk_now hb)
                have n1_ := Aside0.mk (below_step b_now hb)
                clear BK141
                clear HB
                have BK141 := n0_
                have HB := n1_
                clear n0_ n1_
                (try clear hb)
                (try clear hb2)
                (try clear hk)
                (try clear hi)
                refine hK.out _ _ ⟨(blk_cell BK141.out 0).trans rfl, (blk_cell BK141.out 1).trans rfl, (blk_cell BK141.out 2).trans rfl, (blk_cell BK141.out 3).trans rfl, (blk_cell BK141.out 4).trans rfl, (blk_cell BK141.out 5).trans rfl, (blk_cell BK141.out 6).trans rfl⟩ (fun hHeld => ?_)
                clear hK K
                refine norm_ (a' := ?_) ?_ ?_
                rotate_left
                ·show Act.put _ (some 19) _ = _
                 simp only [Act.put, List.setIfInBounds_toArray, List.set_cons_zero, List.set_cons_succ, i64_w, i32_w]
                 rfl
                refine pure_ (i := 5) (N := some 20) (v := ?_) (a' := ?_) (fm 13 447) rfl rfl (any_of HT_.out (by kernel_rfl)) (fun _ _ _ h => h) (Or.inl ⟨by rfl, ?_⟩) ?_ ?_
                rotate_left; exact ga_; rotate_left; exact gb_
                refine pure_ (i := 6) (N := some 21) (v := ?_) (a' := ?_) (fl 9 4) rfl rfl (any_of HT_.out (by kernel_rfl)) (fun _ _ _ h => h) (Or.inl ⟨by rfl, ?_⟩) ?_ ?_
                rotate_left; exact ga_; rotate_left; exact gb_
                refine one_ (i := 9) (N := some 24) (fl 10 3) rfl rfl (one_of HT_.out (by kernel_rfl)) (by decide) (fun K hK => ?_)
                refine goes_ Tryd.func63 (by kernel_rfl) rfl #[.int .i64 a0_2] (by rfl) rfl rfl (by (try simp only [List.map_toArray, List.map_cons, List.map_nil]); first | done | rfl | (simp only [List.length_drop, List.length_take]; rfl)) ?_
                with_reducible refine (strconv_Itoa_63.calls a0_2 t144 _ ?side1 A12.out).mono ?_
                (case side1 => repeat (first | exact (Kd.C_below HRG0.out HB.out) | (with_reducible refine Kd.C_alloc ?_ _) | (with_reducible refine Kd.C_drewN ?_ _) | (with_reducible refine Kd.C_drew ?_)))
                rintro e w47 ⟨rfl, hb⟩
                refine ⟨_, rfl, ?_⟩
                have n0_ := Aside0.mk (blk_below (g := gb141) (o := .cells #[.bool a0_0, .int .i64 a0_1, .int .i64 a0_2, .int .i64 a0_3, .int .u64 a0_4, .int .u64 a0_5, .int .u64 a0_6] 50 (0, 0)) bk_now hb)
                have n1_ := Aside0.mk (below_step b_now hb)
                clear BK141
                clear HB
                have BK141 := n0_
                have HB := n1_
                clear n0_ n1_
                (try clear hb)
                (try clear hb2)
                (try clear hk)
                (try clear hi)
                refine hK.out _ _ ⟨(blk_cell BK141.out 0).trans rfl, (blk_cell BK141.out 1).trans rfl, (blk_cell BK141.out 2).trans rfl, (blk_cell BK141.out 3).trans rfl, (blk_cell BK141.out 4).trans rfl, (blk_cell BK141.out 5).trans rfl, (blk_cell BK141.out 6).trans rfl⟩ (fun hHeld => ?_)
                clear hK K
                refine norm_ (a' := ?_) ?_ ?_
                rotate_left
                ·show Act.put _ (some 24) _ = _
                 simp only [Act.put, List.setIfInBounds_toArray, List.set_cons_zero, List.set_cons_succ, i64_w, i32_w]
                 rfl
                refine pure_ (i := 10) (N := some 25) (v := ?_) (a' := ?_) (fl 11 2) rfl rfl (any_of HT_.out (by kernel_rfl)) (fun _ _ _ h => h) (Or.inl ⟨by rfl, ?_⟩) ?_ ?_
                rotate_left; exact ga_; rotate_left; exact gb_
                refine pure_ (i := 11) (N := some 26) (v := ?_) (a' := ?_) (fl 12 1) rfl rfl (any_of HT_.out (by kernel_rfl)) (fun _ _ _ h => h) (Or.inl ⟨by rfl, ?_⟩) ?_ ?_
                rotate_left; exact ga_; rotate_left; exact gb_
                refine pure_ (i := 12) (N := some 3) (v := ?_) (a' := ?_) (fl 13 0) rfl rfl (any_of HT_.out (by kernel_rfl)) (fun _ _ _ h => h) (Or.inl ⟨by rfl, ?_⟩) ?_ ?_
                rotate_left; exact ga_; rotate_left; exact gb_
                refine done_ (done_of HT_.out (by kernel_rfl)) ?_
                try go_wp2
                have n0_ := Aside0.mk (blk_drew BK141.out)
                have n1_ := Aside0.mk (below_drew1 HB.out)
                clear BK141
                clear HB
                have BK141 := n0_
                have HB := n1_
                clear n0_ n1_
                refine start_ (n := 6) (S := fun w' => w'.cell? ⟨gb141, 0, none⟩ = some (.bool a0_0) ∧ w'.cell? ⟨gb141, 1, none⟩ = some (.int .i64 a0_1) ∧ w'.cell? ⟨gb141, 2, none⟩ = some (.int .i64 a0_2) ∧ w'.cell? ⟨gb141, 3, none⟩ = some (.int .i64 a0_3) ∧ w'.cell? ⟨gb141, 4, none⟩ = some (.int .u64 a0_4) ∧ w'.cell? ⟨gb141, 5, none⟩ = some (.int .u64 a0_5) ∧ w'.cell? ⟨gb141, 6, none⟩ = some (.int .u64 a0_6)) (ds := []) (fl 0 6) (by kernel_rfl) rfl rfl ⟨(blk_cell BK141.out 0).trans rfl, (blk_cell BK141.out 1).trans rfl, (blk_cell BK141.out 2).trans rfl, (blk_cell BK141.out 3).trans rfl, (blk_cell BK141.out 4).trans rfl, (blk_cell BK141.out 5).trans rfl, (blk_cell BK141.out 6).trans rfl⟩ (fun hHeld => ?_)
                generalize w47.drew = w48 at BK141 HB hHeld ⊢
                refine pure_ (i := 0) (N := some 27) (v := ?_) (a' := ?_) (fl 1 5) rfl rfl (by kernel_rfl) (fun _ _ _ h => h) (Or.inl ⟨by rfl, ?_⟩) ?_ ?_
                rotate_left; exact ga_; rotate_left; exact gb_
                refine pure_ (i := 2) (N := some 29) (v := ?_) (a' := ?_) (fm 6 5) rfl rfl (by kernel_rfl) (fun _ _ _ h => h) (Or.inl ⟨by rfl, ?_⟩) ?_ ?_
                rotate_left; exact ga_; rotate_left; exact gb_
                refine take_ (i := 1) (N := some 28) (v := ?_) (a' := ?_) (fl 3 3) rfl rfl (by kernel_rfl) (fun _ _ _ h => h) (Or.inl ⟨by rfl, ?_⟩) hHeld ?_ ?_
                rotate_left; exact ga7_; rotate_left; exact gb_
                refine take_ (i := 3) (N := some 30) (v := ?_) (a' := ?_) (fl 4 2) rfl rfl (by kernel_rfl) (fun _ _ _ h => h) (Or.inl ⟨by rfl, ?_⟩) hHeld ?_ ?_
                rotate_left; exact ga7_; rotate_left; exact gb_
                refine one_ (i := 4) (N := some 31) (fl 5 1) rfl rfl (by kernel_rfl) (by decide) (fun K hK => ?_)
                refine goes_ Tryd.func42 (by kernel_rfl) rfl #[.int .i64 a0_3] (by rfl) rfl rfl (by (try simp only [List.map_toArray, List.map_cons, List.map_nil]); first | done | rfl | (simp only [List.length_drop, List.length_take]; rfl)) ?_
                with_reducible refine (rule_full.calls a0_3 t145 _ A15.out).mono ?_
                rintro e w' ⟨rfl, ⟨nd, rfl⟩⟩
                refine ⟨_, rfl, ?_⟩
                refine hK.out _ _ ⟨(blk_cell BK141.out 0).trans rfl, (blk_cell BK141.out 1).trans rfl, (blk_cell BK141.out 2).trans rfl, (blk_cell BK141.out 3).trans rfl, (blk_cell BK141.out 4).trans rfl, (blk_cell BK141.out 5).trans rfl, (blk_cell BK141.out 6).trans rfl⟩ (fun hHeld => ?_)
                clear hK K
                refine norm_ (a' := ?_) ?_ ?_
                rotate_left
                ·show Act.put _ (some 31) _ = _
                 simp only [Act.put, List.setIfInBounds_toArray, List.set_cons_zero, List.set_cons_succ, i64_w, i32_w]
                 rfl
                refine pure_ (i := 5) (N := some 32) (v := ?_) (a' := ?_) (fl 6 0) rfl rfl (by kernel_rfl) (fun _ _ _ h => h) (Or.inl ⟨by rfl, ?_⟩) ?_ ?_
                rotate_left; exact ga_; rotate_left; exact gb_
                refine done_ (by kernel_rfl) ?_
                have hcz49 := blk_all7 BK141.out
                try go_wp2_with (first | ((with_reducible refine gate_callee (f := 47) rfl ?_); refine sh_call (some 36) Tryd.func47 #[.int .u64 a0_4] ?_; (with_reducible refine (rule_digits.calls a0_4 t148 _ ?side1 A33.out).mono ?_); (case side1 => repeat (first | exact (Kd.C_below HRG0.out b_now) | (with_reducible refine Kd.C_alloc ?_ _) | (with_reducible refine Kd.C_drewN ?_ _) | (with_reducible refine Kd.C_drew ?_))); rintro e w50 ⟨rfl, hb⟩; refine ⟨_, rfl, ?_⟩; replace BK141 := sh_k BK141 hb; replace HB := sh_b (w := w) hb; (try clear hb); (try clear hb2); (try clear hk); (try clear hi)))
                have n0_ := Aside0.mk (blk_drew BK141.out)
                have n1_ := Aside0.mk (below_drew1 HB.out)
                clear BK141
                clear HB
                have BK141 := n0_
                have HB := n1_
                clear n0_ n1_
                refine start_ (n := 12) (S := fun w' => w'.cell? ⟨gb141, 0, none⟩ = some (.bool a0_0) ∧ w'.cell? ⟨gb141, 1, none⟩ = some (.int .i64 a0_1) ∧ w'.cell? ⟨gb141, 2, none⟩ = some (.int .i64 a0_2) ∧ w'.cell? ⟨gb141, 3, none⟩ = some (.int .i64 a0_3) ∧ w'.cell? ⟨gb141, 4, none⟩ = some (.int .u64 a0_4) ∧ w'.cell? ⟨gb141, 5, none⟩ = some (.int .u64 a0_5) ∧ w'.cell? ⟨gb141, 6, none⟩ = some (.int .u64 a0_6)) (ds := []) (fl 0 12) (by kernel_rfl) rfl rfl ⟨(blk_cell BK141.out 0).trans rfl, (blk_cell BK141.out 1).trans rfl, (blk_cell BK141.out 2).trans rfl, (blk_cell BK141.out 3).trans rfl, (blk_cell BK141.out 4).trans rfl, (blk_cell BK141.out 5).trans rfl, (blk_cell BK141.out 6).trans rfl⟩ (fun hHeld => ?_); refine with_tabW rule_text.tab9 rule_text.bits9 (fun HT_ HW_ => ?_)
                generalize w50.drew = w51 at BK141 HB hHeld ⊢
                refine pure_ (i := 0) (N := some 39) (v := ?_) (a' := ?_) (fl 1 11) rfl rfl (any_of HT_.out (by kernel_rfl)) (fun _ _ _ h => h) (Or.inl ⟨by rfl, ?_⟩) ?_ ?_
                rotate_left; exact ga_; rotate_left; exact gb_
                refine pure_ (i := 1) (N := some 40) (v := ?_) (a' := ?_) (fl 2 10) rfl rfl (any_of HT_.out (by kernel_rfl)) (fun _ _ _ h => h) (Or.inl ⟨by rfl, ?_⟩) ?_ ?_
                rotate_left; exact ga_; rotate_left; exact gb_
                refine pure_ (i := 2) (N := some 41) (v := ?_) (a' := ?_) (fl 3 9) rfl rfl (any_of HT_.out (by kernel_rfl)) (fun _ _ _ h => h) (Or.inl ⟨by rfl, ?_⟩) ?_ ?_
                rotate_left; exact ga_; rotate_left; exact gb_
                refine pure_ (i := 7) (N := some 46) (v := ?_) (a' := ?_) (fm 12 135) rfl rfl (any_of HT_.out (by kernel_rfl)) (fun _ _ _ h => h) (Or.inl ⟨by rfl, ?_⟩) ?_ ?_
                rotate_left; exact ga_; rotate_left; exact gb_
                refine take_ (i := 3) (N := some 42) (v := ?_) (a' := ?_) (fm 12 143) rfl rfl (take_ofW HT_.out HW_.out (by kernel_rfl)) (fun _ _ _ h => h) (Or.inl ⟨by rfl, ?_⟩) hHeld ?_ ?_
                rotate_left; exact ga7_; rotate_left; exact gb_
                refine take_ (i := 8) (N := some 47) (v := ?_) (a' := ?_) (fm 12 399) rfl rfl (take_ofW HT_.out HW_.out (by kernel_rfl)) (fun _ _ _ h => h) (Or.inl ⟨by rfl, ?_⟩) hHeld ?_ ?_
                rotate_left; exact ga7_; rotate_left; exact gb_
                refine one_ (i := 4) (N := some 43) (fm 12 415) rfl rfl (one_of HT_.out (by kernel_rfl)) (by decide) (fun K hK => ?_)
                refine goes_ Tryd.func47 (by kernel_rfl) rfl #[.int .u64 a0_5] (by rfl) rfl rfl (by (try simp only [List.map_toArray, List.map_cons, List.map_nil]); first | done | rfl | (simp only [List.length_drop, List.length_take]; rfl)) ?_
                with_reducible refine (rule_digits.calls a0_5 t149 _ ?side1 A37.out).mono ?_
                (case side1 => repeat (first | exact (Kd.C_below HRG0.out HB.out) | (with_reducible refine Kd.C_alloc ?_ _) | (with_reducible refine Kd.C_drewN ?_ _) | (with_reducible refine Kd.C_drew ?_)))
                rintro e w52 ⟨rfl, hb⟩
                refine ⟨_, rfl, ?_⟩
                have n0_ := Aside0.mk (blk_below (g := gb141) (o := .cells #[.bool a0_0, .int .i64 a0_1, .int .i64 a0_2, .int .i64 a0_3, .int .u64 a0_4, .int .u64 a0_5, .int .u64 a0_6] 50 (0, 0)) bk_now hb)
                have n1_ := Aside0.mk (below_step b_now hb)
                clear BK141
                clear HB
                have BK141 := n0_
                have HB := n1_
                clear n0_ n1_
                (try clear hb)
                (try clear hb2)
                (try clear hk)
                (try clear hi)
                refine hK.out _ _ ⟨(blk_cell BK141.out 0).trans rfl, (blk_cell BK141.out 1).trans rfl, (blk_cell BK141.out 2).trans rfl, (blk_cell BK141.out 3).trans rfl, (blk_cell BK141.out 4).trans rfl, (blk_cell BK141.out 5).trans rfl, (blk_cell BK141.out 6).trans rfl⟩ (fun hHeld => ?_)
                clear hK K
                refine norm_ (a' := ?_) ?_ ?_
                rotate_left
                ·show Act.put _ (some 43) _ = _
                 simp only [Act.put, List.setIfInBounds_toArray, List.set_cons_zero, List.set_cons_succ, i64_w, i32_w]
                 rfl
                refine pure_ (i := 5) (N := some 44) (v := ?_) (a' := ?_) (fm 12 447) rfl rfl (any_of HT_.out (by kernel_rfl)) (fun _ _ _ h => h) (Or.inl ⟨by rfl, ?_⟩) ?_ ?_
                rotate_left; exact ga_; rotate_left; exact gb_
                refine pure_ (i := 6) (N := some 45) (v := ?_) (a' := ?_) (fl 9 3) rfl rfl (any_of HT_.out (by kernel_rfl)) (fun _ _ _ h => h) (Or.inl ⟨by rfl, ?_⟩) ?_ ?_
                rotate_left; exact ga_; rotate_left; exact gb_
                refine one_ (i := 9) (N := some 48) (fl 10 2) rfl rfl (one_of HT_.out (by kernel_rfl)) (by decide) (fun K hK => ?_)
                refine goes_ Tryd.func47 (by kernel_rfl) rfl #[.int .u64 a0_6] (by rfl) rfl rfl (by (try simp only [List.map_toArray, List.map_cons, List.map_nil]); first | done | rfl | (simp only [List.length_drop, List.length_take]; rfl)) ?_
                with_reducible refine (rule_digits.calls a0_6 t150 _ ?side1 A40.out).mono ?_
                (case side1 => repeat (first | exact (Kd.C_below HRG0.out HB.out) | (with_reducible refine Kd.C_alloc ?_ _) | (with_reducible refine Kd.C_drewN ?_ _) | (with_reducible refine Kd.C_drew ?_)))
                rintro e w53 ⟨rfl, hb⟩
                refine ⟨_, rfl, ?_⟩
                have n0_ := Aside0.mk (blk_below (g := gb141) (o := .cells #[.bool a0_0, .int .i64 a0_1, .int .i64 a0_2, .int .i64 a0_3, .int .u64 a0_4, .int .u64 a0_5, .int .u64 a0_6] 50 (0, 0)) bk_now hb)
                have n1_ := Aside0.mk (below_step b_now hb)
                clear BK141
                clear HB
                have BK141 := n0_
                have HB := n1_
                clear n0_ n1_
                (try clear hb)
                (try clear hb2)
                (try clear hk)
                (try clear hi)
                refine hK.out _ _ ⟨(blk_cell BK141.out 0).trans rfl, (blk_cell BK141.out 1).trans rfl, (blk_cell BK141.out 2).trans rfl, (blk_cell BK141.out 3).trans rfl, (blk_cell BK141.out 4).trans rfl, (blk_cell BK141.out 5).trans rfl, (blk_cell BK141.out 6).trans rfl⟩ (fun hHeld => ?_)
                clear hK K
                refine norm_ (a' := ?_) ?_ ?_
                rotate_left
                ·show Act.put _ (some 48) _ = _
                 simp only [Act.put, List.setIfInBounds_toArray, List.set_cons_zero, List.set_cons_succ, i64_w, i32_w]
                 rfl
                refine pure_ (i := 10) (N := some 49) (v := ?_) (a' := ?_) (fl 11 1) rfl rfl (any_of HT_.out (by kernel_rfl)) (fun _ _ _ h => h) (Or.inl ⟨by rfl, ?_⟩) ?_ ?_
                rotate_left; exact ga_; rotate_left; exact gb_
                refine pure_ (i := 11) (N := some 2) (v := ?_) (a' := ?_) (fl 12 0) rfl rfl (any_of HT_.out (by kernel_rfl)) (fun _ _ _ h => h) (Or.inl ⟨by rfl, ?_⟩) ?_ ?_
                rotate_left; exact ga_; rotate_left; exact gb_
                refine done_ (done_of HT_.out (by kernel_rfl)) ?_
                try go_wp2
                go_ret
                exact ⟨ret_now, b_now⟩
               ·rw [if_neg c41] at H
                exact absurd H (by simp)
              ·rw [if_neg c39] at H
               exact absurd H (by simp)
             ·rw [if_neg c38] at H
              exact absurd H (by simp)
            ·rw [if_neg c36] at H
             exact absurd H (by simp)
           ·rw [if_neg c35] at H
            exact absurd H (by simp)
          ·rw [if_neg c34] at H
           exact absurd H (by simp)
        ·rw [if_neg c14] at H
         exact absurd H (by simp)
       ·rw [if_neg c13] at H
        exact absurd H (by simp)
      ·rw [if_neg c11] at H
       exact absurd H (by simp)
     ·rw [if_neg c10] at H
      exact absurd H (by simp)
    ·rw [if_neg c8] at H
     have c8b0 : decide (3 ≤ a0_1) = false := decide_eq_false c8
     clear c8
     by_cases c54 : (x3_1 ++ t142).size + 1 ≤ 9223372036854775807
     ·rw [if_pos c54] at H
      have c54b0 := eq_true c54
      have c54_y0 : ((9223372036854775807 < x3_1.size + t142.size + 1) : Prop) = False := eq_false (by have h_ := c54; simp only [ByteArray.size_append] at h_; exact Nat.not_lt.2 h_)
      have c54_z0 : ((x3_1.size + t142.size + 1 ≤ 9223372036854775807) : Prop) = True := eq_true (by have h_ := c54; simp only [ByteArray.size_append] at h_; exact h_)
      have c54b1 : decide ((x3_1 ++ t142).size + 1 ≤ 9223372036854775807) = true := decide_eq_true c54
      try have c54b2 : (9223372036854775807 < (x3_1 ++ t142).size + 1) = False := eq_false (Nat.not_lt.2 c54)
      replace H := Option.bind_eq_some_iff.mp H; obtain ⟨t151, A550, H⟩ := H; try dsimp only at H
      have A55 := Aside0.mk A550
      clear A550
      by_cases c56 : ((x3_1 ++ t142) ++ (⟨#[32]⟩ : ByteArray)).size + t151.size ≤ 9223372036854775807
      ·rw [if_pos c56] at H
       have c56b0 := eq_true c56
       have c56_y0 : ((9223372036854775807 < x3_1.size + t142.size + 1 + t151.size) : Prop) = False := eq_false (by have h_ := c56; simp only [ByteArray.size_append] at h_; exact Nat.not_lt.2 h_)
       have c56_z0 : ((x3_1.size + t142.size + 1 + t151.size ≤ 9223372036854775807) : Prop) = True := eq_true (by have h_ := c56; simp only [ByteArray.size_append] at h_; exact h_)
       have c56b1 : decide (((x3_1 ++ t142) ++ (⟨#[32]⟩ : ByteArray)).size + t151.size ≤ 9223372036854775807) = true := decide_eq_true c56
       try have c56b2 : (9223372036854775807 < ((x3_1 ++ t142) ++ (⟨#[32]⟩ : ByteArray)).size + t151.size) = False := eq_false (Nat.not_lt.2 c56)
       by_cases c57 : (((x3_1 ++ t142) ++ (⟨#[32]⟩ : ByteArray)) ++ t151).size + 2 ≤ 9223372036854775807
       ·rw [if_pos c57] at H
        have c57b0 := eq_true c57
        have c57_y0 : ((9223372036854775807 < x3_1.size + t142.size + 1 + t151.size + 2) : Prop) = False := eq_false (by have h_ := c57; simp only [ByteArray.size_append] at h_; exact Nat.not_lt.2 h_)
        have c57_z0 : ((x3_1.size + t142.size + 1 + t151.size + 2 ≤ 9223372036854775807) : Prop) = True := eq_true (by have h_ := c57; simp only [ByteArray.size_append] at h_; exact h_)
        have c57b1 : decide ((((x3_1 ++ t142) ++ (⟨#[32]⟩ : ByteArray)) ++ t151).size + 2 ≤ 9223372036854775807) = true := decide_eq_true c57
        try have c57b2 : (9223372036854775807 < (((x3_1 ++ t142) ++ (⟨#[32]⟩ : ByteArray)) ++ t151).size + 2) = False := eq_false (Nat.not_lt.2 c57)
        replace H := Option.bind_eq_some_iff.mp H; obtain ⟨t152, A580, H⟩ := H; try dsimp only at H
        have A58 := Aside0.mk A580
        clear A580
        by_cases c59 : ((((x3_1 ++ t142) ++ (⟨#[32]⟩ : ByteArray)) ++ t151) ++ (⟨#[46, 46]⟩ : ByteArray)).size + t152.size ≤ 9223372036854775807
        ·rw [if_pos c59] at H
         have c59b0 := eq_true c59
         have c59_y0 : ((9223372036854775807 < x3_1.size + t142.size + 1 + t151.size + 2 + t152.size) : Prop) = False := eq_false (by have h_ := c59; simp only [ByteArray.size_append] at h_; exact Nat.not_lt.2 h_)
         have c59_z0 : ((x3_1.size + t142.size + 1 + t151.size + 2 + t152.size ≤ 9223372036854775807) : Prop) = True := eq_true (by have h_ := c59; simp only [ByteArray.size_append] at h_; exact h_)
         have c59b1 : decide (((((x3_1 ++ t142) ++ (⟨#[32]⟩ : ByteArray)) ++ t151) ++ (⟨#[46, 46]⟩ : ByteArray)).size + t152.size ≤ 9223372036854775807) = true := decide_eq_true c59
         try have c59b2 : (9223372036854775807 < ((((x3_1 ++ t142) ++ (⟨#[32]⟩ : ByteArray)) ++ t151) ++ (⟨#[46, 46]⟩ : ByteArray)).size + t152.size) = False := eq_false (Nat.not_lt.2 c59)
         obtain rfl := Option.some.inj H
         have hcz60 := blk_all7 BK141.out
         try go_wp2_with (first | ((with_reducible refine gate_callee (f := 35) rfl ?_); refine sh_call (some 9) Tryd.func35 #[.int .i64 a0_1] ?_; (with_reducible refine (rule_of.calls a0_1 t142 _ A6.out).mono ?_); rintro e w61 ⟨rfl, hb⟩; refine ⟨_, rfl, ?_⟩; replace BK141 := sh_k BK141 hb; replace HB := sh_b (w := w) hb; (try clear hb); (try clear hb2); (try clear hk); (try clear hi); have hcz62 := blk_all7 BK141.out))
         have n0_ := Aside0.mk (blk_drew BK141.out)
         have n1_ := Aside0.mk (below_drew1 HB.out)
         clear BK141
         clear HB
         have BK141 := n0_
         have HB := n1_
         clear n0_ n1_
         refine start_ (n := 12) (S := fun w' => w'.cell? ⟨gb141, 0, none⟩ = some (.bool a0_0) ∧ w'.cell? ⟨gb141, 1, none⟩ = some (.int .i64 a0_1) ∧ w'.cell? ⟨gb141, 2, none⟩ = some (.int .i64 a0_2) ∧ w'.cell? ⟨gb141, 3, none⟩ = some (.int .i64 a0_3) ∧ w'.cell? ⟨gb141, 4, none⟩ = some (.int .u64 a0_4) ∧ w'.cell? ⟨gb141, 5, none⟩ = some (.int .u64 a0_5) ∧ w'.cell? ⟨gb141, 6, none⟩ = some (.int .u64 a0_6)) (ds := []) (fl 0 12) (by kernel_rfl) rfl rfl ⟨(blk_cell BK141.out 0).trans rfl, (blk_cell BK141.out 1).trans rfl, (blk_cell BK141.out 2).trans rfl, (blk_cell BK141.out 3).trans rfl, (blk_cell BK141.out 4).trans rfl, (blk_cell BK141.out 5).trans rfl, (blk_cell BK141.out 6).trans rfl⟩ (fun hHeld => ?_); refine with_tabW rule_text.tab9 rule_text.bits9 (fun HT_ HW_ => ?_)
         generalize w61.drew = w63 at BK141 HB hHeld ⊢
         refine pure_ (i := 0) (N := some 39) (v := ?_) (a' := ?_) (fl 1 11) rfl rfl (any_of HT_.out (by kernel_rfl)) (fun _ _ _ h => h) (Or.inl ⟨by rfl, ?_⟩) ?_ ?_
         rotate_left; exact ga_; rotate_left; exact gb_
         refine pure_ (i := 1) (N := some 40) (v := ?_) (a' := ?_) (fl 2 10) rfl rfl (any_of HT_.out (by kernel_rfl)) (fun _ _ _ h => h) (Or.inl ⟨by rfl, ?_⟩) ?_ ?_
         rotate_left; exact ga_; rotate_left; exact gb_
         refine pure_ (i := 2) (N := some 41) (v := ?_) (a' := ?_) (fl 3 9) rfl rfl (any_of HT_.out (by kernel_rfl)) (fun _ _ _ h => h) (Or.inl ⟨by rfl, ?_⟩) ?_ ?_
         rotate_left; exact ga_; rotate_left; exact gb_
         refine pure_ (i := 7) (N := some 46) (v := ?_) (a' := ?_) (fm 12 135) rfl rfl (any_of HT_.out (by kernel_rfl)) (fun _ _ _ h => h) (Or.inl ⟨by rfl, ?_⟩) ?_ ?_
         rotate_left; exact ga_; rotate_left; exact gb_
         refine take_ (i := 3) (N := some 42) (v := ?_) (a' := ?_) (fm 12 143) rfl rfl (take_ofW HT_.out HW_.out (by kernel_rfl)) (fun _ _ _ h => h) (Or.inl ⟨by rfl, ?_⟩) hHeld ?_ ?_
         rotate_left; exact ga7_; rotate_left; exact gb_
         refine take_ (i := 8) (N := some 47) (v := ?_) (a' := ?_) (fm 12 399) rfl rfl (take_ofW HT_.out HW_.out (by kernel_rfl)) (fun _ _ _ h => h) (Or.inl ⟨by rfl, ?_⟩) hHeld ?_ ?_
         rotate_left; exact ga7_; rotate_left; exact gb_
         refine one_ (i := 4) (N := some 43) (fm 12 415) rfl rfl (one_of HT_.out (by kernel_rfl)) (by decide) (fun K hK => ?_)
         refine goes_ Tryd.func47 (by kernel_rfl) rfl #[.int .u64 a0_5] (by rfl) rfl rfl (by (try simp only [List.map_toArray, List.map_cons, List.map_nil]); first | done | rfl | (simp only [List.length_drop, List.length_take]; rfl)) ?_
         with_reducible refine (rule_digits.calls a0_5 t151 _ ?side1 A55.out).mono ?_
         (case side1 => repeat (first | exact (Kd.C_below HRG0.out HB.out) | (with_reducible refine Kd.C_alloc ?_ _) | (with_reducible refine Kd.C_drewN ?_ _) | (with_reducible refine Kd.C_drew ?_)))
         rintro e w64 ⟨rfl, hb⟩
         refine ⟨_, rfl, ?_⟩
         have n0_ := Aside0.mk (blk_below (g := gb141) (o := .cells #[.bool a0_0, .int .i64 a0_1, .int .i64 a0_2, .int .i64 a0_3, .int .u64 a0_4, .int .u64 a0_5, .int .u64 a0_6] 50 (0, 0)) bk_now hb)
         have n1_ := Aside0.mk (below_step b_now hb)
         clear BK141
         clear HB
         have BK141 := n0_
         have HB := n1_
         clear n0_ n1_
         (try clear hb)
         (try clear hb2)
         (try clear hk)
         (try clear hi)
         refine hK.out _ _ ⟨(blk_cell BK141.out 0).trans rfl, (blk_cell BK141.out 1).trans rfl, (blk_cell BK141.out 2).trans rfl, (blk_cell BK141.out 3).trans rfl, (blk_cell BK141.out 4).trans rfl, (blk_cell BK141.out 5).trans rfl, (blk_cell BK141.out 6).trans rfl⟩ (fun hHeld => ?_)
         clear hK K
         refine norm_ (a' := ?_) ?_ ?_
         rotate_left
         ·show Act.put _ (some 43) _ = _
          simp only [Act.put, List.setIfInBounds_toArray, List.set_cons_zero, List.set_cons_succ, i64_w, i32_w]
          rfl
         refine pure_ (i := 5) (N := some 44) (v := ?_) (a' := ?_) (fm 12 447) rfl rfl (any_of HT_.out (by kernel_rfl)) (fun _ _ _ h => h) (Or.inl ⟨by rfl, ?_⟩) ?_ ?_
         rotate_left; exact ga_; rotate_left; exact gb_
         refine pure_ (i := 6) (N := some 45) (v := ?_) (a' := ?_) (fl 9 3) rfl rfl (any_of HT_.out (by kernel_rfl)) (fun _ _ _ h => h) (Or.inl ⟨by rfl, ?_⟩) ?_ ?_
         rotate_left; exact ga_; rotate_left; exact gb_
         refine one_ (i := 9) (N := some 48) (fl 10 2) rfl rfl (one_of HT_.out (by kernel_rfl)) (by decide) (fun K hK => ?_)
         refine goes_ Tryd.func47 (by kernel_rfl) rfl #[.int .u64 a0_6] (by rfl) rfl rfl (by (try simp only [List.map_toArray, List.map_cons, List.map_nil]); first | done | rfl | (simp only [List.length_drop, List.length_take]; rfl)) ?_
         with_reducible refine (rule_digits.calls a0_6 t152 _ ?side1 A58.out).mono ?_
         (case side1 => repeat (first | exact (Kd.C_below HRG0.out HB.out) | (with_reducible refine Kd.C_alloc ?_ _) | (with_reducible refine Kd.C_drewN ?_ _) | (with_reducible refine Kd.C_drew ?_)))
         rintro e w65 ⟨rfl, hb⟩
         refine ⟨_, rfl, ?_⟩
         have n0_ := Aside0.mk (blk_below (g := gb141) (o := .cells #[.bool a0_0, .int .i64 a0_1, .int .i64 a0_2, .int .i64 a0_3, .int .u64 a0_4, .int .u64 a0_5, .int .u64 a0_6] 50 (0, 0)) bk_now hb)
         have n1_ := Aside0.mk (below_step b_now hb)
         clear BK141
         clear HB
         have BK141 := n0_
         have HB := n1_
         clear n0_ n1_
         (try clear hb)
         (try clear hb2)
         (try clear hk)
         (try clear hi)
         refine hK.out _ _ ⟨(blk_cell BK141.out 0).trans rfl, (blk_cell BK141.out 1).trans rfl, (blk_cell BK141.out 2).trans rfl, (blk_cell BK141.out 3).trans rfl, (blk_cell BK141.out 4).trans rfl, (blk_cell BK141.out 5).trans rfl, (blk_cell BK141.out 6).trans rfl⟩ (fun hHeld => ?_)
         clear hK K
         refine norm_ (a' := ?_) ?_ ?_
         rotate_left
         ·show Act.put _ (some 48) _ = _
          simp only [Act.put, List.setIfInBounds_toArray, List.set_cons_zero, List.set_cons_succ, i64_w, i32_w]
          rfl
         refine pure_ (i := 10) (N := some 49) (v := ?_) (a' := ?_) (fl 11 1) rfl rfl (any_of HT_.out (by kernel_rfl)) (fun _ _ _ h => h) (Or.inl ⟨by rfl, ?_⟩) ?_ ?_
         rotate_left; exact ga_; rotate_left; exact gb_
         refine pure_ (i := 11) (N := some 2) (v := ?_) (a' := ?_) (fl 12 0) rfl rfl (any_of HT_.out (by kernel_rfl)) (fun _ _ _ h => h) (Or.inl ⟨by rfl, ?_⟩) ?_ ?_
         rotate_left; exact ga_; rotate_left; exact gb_
         refine done_ (done_of HT_.out (by kernel_rfl)) ?_
         try go_wp2
         go_ret
         exact ⟨ret_now, b_now⟩
        ·rw [if_neg c59] at H
         exact absurd H (by simp)
       ·rw [if_neg c57] at H
        exact absurd H (by simp)
      ·rw [if_neg c56] at H
       exact absurd H (by simp)
     ·rw [if_neg c54] at H
      exact absurd H (by simp)
   ·rw [if_neg c7] at H
    exact absurd H (by simp)

end Go.Proofs.YtighficpbplkhaaDoor.P
