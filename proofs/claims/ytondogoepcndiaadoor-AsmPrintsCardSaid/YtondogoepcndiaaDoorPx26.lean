/- Made by this session's driver over the kit's printer: for each Go function a Lean function with the same answers, and a proof that the Go call comes to these answers; no conditions but the ones each theorem names. -/
import Derived.Test.YtondogoepcndiaaDoorPx0
import Derived.Test.YtondogoepcndiaaDoorPx25
namespace Go.Proofs.YtondogoepcndiaaDoor.P
open Go.RowKit Go.Proofs.YtondogoepcndiaaDoorW.PrintWords Go.Proofs.YtondogoepcndiaaDoorW.PrintLast Go.Proofs.YtondogoepcndiaaDoorW.PrintMore
attribute [local go_sem] max2_int min2_int max_two min_two max_three min_three max_four min_four   -- for this text's walks alone
set_option linter.unusedVariables false
set_option linter.unusedSimpArgs false

/-! ### stockaderef03_Pattern: function 21 -/
mutual
def stockaderef03_Pattern.j0 : Nat → ByteArray → Int → Int → Int → Bool → Bool → Option (ByteArray)
 | 0, _, _, _, _, _, _ => none
 | k + 1, x3, x485000, x485001, x485002, x485003, x485004 => (stockaderef03_digits.f k (IntKind.u64.wrap (wrap64 (8 * x485002)))).bind fun t485 => (if x485004 = true then (stockaderef03_Pattern.j1 k x3 t485 (⟨#[83]⟩ : ByteArray) x485000 x485001 x485002 x485003 x485004) else (stockaderef03_Pattern.j1 k x3 t485 (⟨#[78]⟩ : ByteArray) x485000 x485001 x485002 x485003 x485004))
def stockaderef03_Pattern.j1 : Nat → ByteArray → ByteArray → ByteArray → Int → Int → Int → Bool → Bool → Option (ByteArray)
 | 0, _, _, _, _, _, _, _, _ => none
 | k + 1, x3, x4, x5, x485000, x485001, x485002, x485003, x485004 => if x485000 = 1 then (if x485001 = 8 then (if 3 + x3.size ≤ 9223372036854775807 then (if ((⟨#[110, 101, 103]⟩ : ByteArray) ++ x3).size + 2 ≤ 9223372036854775807 then (some (((⟨#[110, 101, 103]⟩ : ByteArray) ++ x3) ++ (⟨#[32, 68]⟩ : ByteArray))) else (none)) else (none)) else ((stockaderef03_name.f 1 x485001).bind fun t486 => (if t486.size + x3.size ≤ 9223372036854775807 then (if (t486 ++ x3).size + 4 ≤ 9223372036854775807 then (if ((t486 ++ x3) ++ (⟨#[32, 68, 44, 32]⟩ : ByteArray)).size + x5.size ≤ 9223372036854775807 then (some (((t486 ++ x3) ++ (⟨#[32, 68, 44, 32]⟩ : ByteArray)) ++ x5)) else (none)) else (none)) else (none)))) else (if x485000 = 2 then (if 4 + x4.size ≤ 9223372036854775807 then (if ((⟨#[115, 119, 97, 112]⟩ : ByteArray) ++ x4).size + 2 ≤ 9223372036854775807 then (some (((⟨#[115, 119, 97, 112]⟩ : ByteArray) ++ x4) ++ (⟨#[32, 68]⟩ : ByteArray))) else (none)) else (none)) else (if x485000 = 3 then (if 4 + x4.size ≤ 9223372036854775807 then (if ((⟨#[108, 111, 97, 100]⟩ : ByteArray) ++ x4).size + 6 ≤ 9223372036854775807 then (some (((⟨#[108, 111, 97, 100]⟩ : ByteArray) ++ x4) ++ (⟨#[32, 68, 44, 32, 83, 79]⟩ : ByteArray))) else (none)) else (none)) else (if x485000 = 4 then (if 5 + x4.size ≤ 9223372036854775807 then (if ((⟨#[115, 116, 111, 114, 101]⟩ : ByteArray) ++ x4).size + 6 ≤ 9223372036854775807 then (some (((⟨#[115, 116, 111, 114, 101]⟩ : ByteArray) ++ x4) ++ (⟨#[32, 68, 79, 44, 32, 83]⟩ : ByteArray))) else (none)) else (none)) else (if x485000 = 5 then (if 3 + x4.size ≤ 9223372036854775807 then (if ((⟨#[112, 117, 116]⟩ : ByteArray) ++ x4).size + 6 ≤ 9223372036854775807 then (some (((⟨#[112, 117, 116]⟩ : ByteArray) ++ x4) ++ (⟨#[32, 68, 79, 44, 32, 78]⟩ : ByteArray))) else (none)) else (none)) else (if x485000 = 6 then ((stockaderef03_name.f 6 x485001).bind fun t487 => (if t487.size + x3.size ≤ 9223372036854775807 then (if (t487 ++ x3).size + 4 ≤ 9223372036854775807 then (if ((t487 ++ x3) ++ (⟨#[32, 68, 44, 32]⟩ : ByteArray)).size + x5.size ≤ 9223372036854775807 then (if (((t487 ++ x3) ++ (⟨#[32, 68, 44, 32]⟩ : ByteArray)) ++ x5).size + 3 ≤ 9223372036854775807 then (some ((((t487 ++ x3) ++ (⟨#[32, 68, 44, 32]⟩ : ByteArray)) ++ x5) ++ (⟨#[44, 32, 79]⟩ : ByteArray))) else (none)) else (none)) else (none)) else (none))) else (if x485000 = 7 then (some (⟨#[103, 111, 116, 111, 32, 79]⟩ : ByteArray)) else (if x485000 = 8 then (some (⟨#[99, 97, 108, 108, 32, 78]⟩ : ByteArray)) else (if x485000 = 9 then (some (⟨#[101, 120, 105, 116]⟩ : ByteArray)) else (if x485000 = 10 then (some (⟨#[99, 111, 110, 115, 116, 32, 68, 44, 32, 85]⟩ : ByteArray)) else (some (⟨#[109, 97, 112, 32, 68, 44, 32, 78]⟩ : ByteArray)))))))))))
end
def stockaderef03_Pattern.f (k : Nat) (a0_0 : Int) (a0_1 : Int) (a0_2 : Int) (a0_3 : Bool) (a0_4 : Bool) : Option (ByteArray) := if a0_3 = true then (stockaderef03_Pattern.j0 k (⟨#[54, 52]⟩ : ByteArray) a0_0 a0_1 a0_2 a0_3 a0_4) else (stockaderef03_Pattern.j0 k (⟨#[51, 50]⟩ : ByteArray) a0_0 a0_1 a0_2 a0_3 a0_4)
theorem stockaderef03_Pattern.mono_l : ∀ k, (∀ y0 y1 y2 y3 y4 y5, LeO (stockaderef03_Pattern.j0 k y0 y1 y2 y3 y4 y5) (stockaderef03_Pattern.j0 (k + 1) y0 y1 y2 y3 y4 y5)) ∧ (∀ y0 y1 y2 y3 y4 y5 y6 y7, LeO (stockaderef03_Pattern.j1 k y0 y1 y2 y3 y4 y5 y6 y7) (stockaderef03_Pattern.j1 (k + 1) y0 y1 y2 y3 y4 y5 y6 y7))
 | 0 => ⟨fun _ _ _ _ _ _ r h => by simp [stockaderef03_Pattern.j0] at h, fun _ _ _ _ _ _ _ _ r h => by simp [stockaderef03_Pattern.j1] at h⟩
 | k + 1 => by
  obtain ⟨ih0, ih1⟩ := stockaderef03_Pattern.mono_l k
  refine ⟨?_, ?_⟩
  ·intro y0 y1 y2 y3 y4 y5
   unfold stockaderef03_Pattern.j0
   repeat' first
   | (with_reducible exact ih0 _ _ _ _ _ _)
   | (with_reducible exact ih1 _ _ _ _ _ _ _ _)
   | (with_reducible exact stockaderef03_digits.mono _ _)
   | (with_reducible exact LeO.refl _)
   | (with_reducible exact LeO.none _)
   | (with_reducible refine LeO.ite ?_ ?_)
   | (with_reducible refine LeO.bind ?_ (fun _ => ?_))
   | refine LeO.ite ?_ ?_
   | refine LeO.bind ?_ (fun _ => ?_)
  ·intro y0 y1 y2 y3 y4 y5 y6 y7
   unfold stockaderef03_Pattern.j1
   repeat' first
   | (with_reducible exact ih0 _ _ _ _ _ _)
   | (with_reducible exact ih1 _ _ _ _ _ _ _ _)
   | (with_reducible exact stockaderef03_digits.mono _ _)
   | (with_reducible exact LeO.refl _)
   | (with_reducible exact LeO.none _)
   | (with_reducible refine LeO.ite ?_ ?_)
   | (with_reducible refine LeO.bind ?_ (fun _ => ?_))
   | refine LeO.ite ?_ ?_
   | refine LeO.bind ?_ (fun _ => ?_)
theorem stockaderef03_Pattern.mono : ∀ a0 a1 a2 a3 a4 k, LeO (stockaderef03_Pattern.f k a0 a1 a2 a3 a4) (stockaderef03_Pattern.f (k + 1) a0 a1 a2 a3 a4) := by
 intro a0 a1 a2 a3 a4 k
 obtain ⟨ih0, ih1⟩ := stockaderef03_Pattern.mono_l k
 unfold stockaderef03_Pattern.f
 repeat' first
   | (with_reducible exact ih0 _ _ _ _ _ _)
   | (with_reducible exact ih1 _ _ _ _ _ _ _ _)
   | (with_reducible exact stockaderef03_digits.mono _ _)
   | (with_reducible exact LeO.refl _)
   | (with_reducible exact LeO.none _)
   | (with_reducible refine LeO.ite ?_ ?_)
   | (with_reducible refine LeO.bind ?_ (fun _ => ?_))
   | refine LeO.ite ?_ ?_
   | refine LeO.bind ?_ (fun _ => ?_)
set_option maxHeartbeats 8000000 in
set_option maxRecDepth 100000 in
theorem stockaderef03_Pattern.calls (k : Nat) (a0_0 : Int) (a0_1 : Int) (a0_2 : Int) (a0_3 : Bool) (a0_4 : Bool) (r : ByteArray) (w : World) (h : stockaderef03_Pattern.f k a0_0 a0_1 a0_2 a0_3 a0_4 = some r) :
  Calls Tryd.prog 21 #[.agg #[.int .i64 a0_0, .int .i64 a0_1, .int .i64 a0_2, .bool a0_3, .bool a0_4]] w fun e w' => e = .returned (.string r) ∧ Below w.heap.size w w' := by
 have hu59 := Tryd.underlying59
 have HB := Aside0.mk (Below.refl w.heap.size w)
 have H : (if a0_3 = true then (stockaderef03_Pattern.j0 k (⟨#[54, 52]⟩ : ByteArray) a0_0 a0_1 a0_2 a0_3 a0_4) else (stockaderef03_Pattern.j0 k (⟨#[51, 50]⟩ : ByteArray) a0_0 a0_1 a0_2 a0_3 a0_4)) = some r := h
 clear h
 have HC2 := Aside0.mk H
 clear H
 go_enter Tryd.func21, Tryd.ntmps21
 go_upto_if 7 with (first | ((with_reducible refine gate_dst (N := 1) rfl ?_); refine sh_box 1 #[.int .i64 a0_0, .int .i64 a0_1, .int .i64 a0_2, .bool a0_3, .bool a0_4] 59 ?_; intro gb484 hg w3 hbox hb; have GE484 := sh_z (w := w) hg; replace HB := sh_b (w := w) hb; have BK484 := Aside0.mk (hbox); clear hb hbox hg; have hcz4 := blk_all5 BK484.out))
 (try simp only [Act.put, List.setIfInBounds_toArray, List.set_cons_zero, List.set_cons_succ])
 go_cut [3] (fun v3 wc => ∃ (kq : Nat) (x3_1 : ByteArray), v3 = .string x3_1 ∧ Aside0 (stockaderef03_Pattern.j0 kq x3_1 a0_0 a0_1 a0_2 a0_3 a0_4 = some r) ∧ Aside0 (kq ≤ k) ∧ Aside0 (wc.heap[gb484]? = some (.cells #[.int .i64 a0_0, .int .i64 a0_1, .int .i64 a0_2, .bool a0_3, .bool a0_4] 59 (0, 0))) ∧ Aside0 (Below w.heap.size w wc))
 case first =>
  have H := HC2.out
  clear HC2
  by_cases c5 : a0_3 = true
  ·subst c5
   replace H := sh_t H
   have H' := Aside0.mk H
   clear H
   go_wp2
   go_meet
   case rel => exact ⟨_, ((⟨#[54, 52]⟩ : ByteArray)), eq_now, H', ⟨by first | omega | exact Nat.le_refl _⟩, ⟨bk_now⟩, ⟨b_now⟩⟩
  ·replace c5 := Bool.eq_false_iff.mpr c5
   subst c5
   replace H := sh_f H
   have H' := Aside0.mk H
   clear H
   go_wp2
   go_meet
   case rel => exact ⟨_, ((⟨#[51, 50]⟩ : ByteArray)), eq_now, H', ⟨by first | omega | exact Nat.le_refl _⟩, ⟨bk_now⟩, ⟨b_now⟩⟩
 case rest =>
  clear HC2
  try clear c2
  try clear p2
  try clear c5
  try clear hcz4
  obtain ⟨kq, x3_1, rfl, HA, HJ1, BK484, HB⟩ := hcut
  cases kq with
  | zero => exact absurd HA.out (by simp [stockaderef03_Pattern.j0])
  | succ kj1 =>
   have H := HA.out
   clear HA
   simp only [stockaderef03_Pattern.j0] at H
   obtain ⟨t485, A6, H⟩ := bs_ H; try dsimp only at H
   have HC7 := Aside0.mk H
   clear H
   have hcz8 := blk_all5 BK484.out
   go_upto_if 14 with (first | ((with_reducible refine gate_callee (f := 34) rfl ?_); refine sh_call (some 12) Tryd.func34 #[.int .u64 (IntKind.u64.wrap (wrap64 (8 * a0_2)))] ?_; (with_reducible refine (stockaderef03_digits.calls kj1 (IntKind.u64.wrap (wrap64 (8 * a0_2))) t485 _ A6.out).mono ?_); rintro e w9 ⟨rfl, hb⟩; refine ⟨_, rfl, ?_⟩; replace BK484 := sh_k BK484 hb; replace HB := sh_b (w := w) hb; (try clear hb); (try clear hb2); (try clear hk); (try clear hi); have hcz10 := blk_all5 BK484.out))
   (try simp only [Act.put, List.setIfInBounds_toArray, List.set_cons_zero, List.set_cons_succ])
   go_cut [5] (fun v5 wc => ∃ (kq : Nat) (x5_6 : ByteArray), v5 = .string x5_6 ∧ Aside0 (stockaderef03_Pattern.j1 kq x3_1 t485 x5_6 a0_0 a0_1 a0_2 a0_3 a0_4 = some r) ∧ Aside0 (kq ≤ kj1) ∧ Aside0 (wc.heap[gb484]? = some (.cells #[.int .i64 a0_0, .int .i64 a0_1, .int .i64 a0_2, .bool a0_3, .bool a0_4] 59 (0, 0))) ∧ Aside0 (Below w.heap.size w wc))
   case first =>
    have H := HC7.out
    clear HC7
    by_cases c11 : a0_4 = true
    ·subst c11
     replace H := sh_t H
     have H' := Aside0.mk H
     clear H
     go_wp2
     go_meet
     case rel => exact ⟨_, ((⟨#[83]⟩ : ByteArray)), eq_now, H', ⟨by have := HJ1.out; first | omega | exact Nat.le_refl _⟩, ⟨bk_now⟩, ⟨b_now⟩⟩
    ·replace c11 := Bool.eq_false_iff.mpr c11
     subst c11
     replace H := sh_f H
     have H' := Aside0.mk H
     clear H
     go_wp2
     go_meet
     case rel => exact ⟨_, ((⟨#[78]⟩ : ByteArray)), eq_now, H', ⟨by have := HJ1.out; first | omega | exact Nat.le_refl _⟩, ⟨bk_now⟩, ⟨b_now⟩⟩
   case rest =>
    clear HC7
    try clear c1
    try clear c2
    try clear p2
    try clear c3
    try clear c5
    try clear p6
    try clear c11
    try clear hcz10
    try clear hcz4
    try clear hcz8
    try clear p2
    obtain ⟨kq, x5_6, rfl, HA, HJ6, BK484, HB⟩ := hcut
    cases kq with
    | zero => exact absurd HA.out (by simp [stockaderef03_Pattern.j1])
    | succ kj6 =>
     have H := HA.out
     clear HA
     simp only [stockaderef03_Pattern.j1] at H
     by_cases c12 : a0_0 = 1
     ·rw [if_pos c12] at H
      obtain ⟨c12b0, c12b1⟩ := eqT c12
      clear c12
      by_cases c13 : a0_1 = 8
      ·rw [if_pos c13] at H
       obtain ⟨c13b0, c13b1⟩ := eqT c13
       clear c13
       by_cases c14 : 3 + x3_1.size ≤ 9223372036854775807
       ·rw [if_pos c14] at H
        have c14b0 := eq_true c14
        have c14b1 : decide (3 + x3_1.size ≤ 9223372036854775807) = true := decide_eq_true c14
        try have c14b2 : (9223372036854775807 < 3 + x3_1.size) = False := eq_false (Nat.not_lt.2 c14)
        by_cases c15 : ((⟨#[110, 101, 103]⟩ : ByteArray) ++ x3_1).size + 2 ≤ 9223372036854775807
        ·rw [if_pos c15] at H
         have c15b0 := eq_true c15
         have c15_y0 : ((9223372036854775807 < 3 + x3_1.size + 2) : Prop) = False := eq_false (by have h_ := c15; simp only [ByteArray.size_append] at h_; exact Nat.not_lt.2 h_)
         have c15_z0 : ((3 + x3_1.size + 2 ≤ 9223372036854775807) : Prop) = True := eq_true (by have h_ := c15; simp only [ByteArray.size_append] at h_; exact h_)
         have c15b1 : decide (((⟨#[110, 101, 103]⟩ : ByteArray) ++ x3_1).size + 2 ≤ 9223372036854775807) = true := decide_eq_true c15
         try have c15b2 : (9223372036854775807 < ((⟨#[110, 101, 103]⟩ : ByteArray) ++ x3_1).size + 2) = False := eq_false (Nat.not_lt.2 c15)
         obtain rfl := Option.some.inj H
         have hcz16 := blk_all5 BK484.out
         go_wp2
         go_ret
         exact ⟨ret_now, b_now⟩
        ·rw [if_neg c15] at H
         exact absurd H (by simp)
       ·rw [if_neg c14] at H
        exact absurd H (by simp)
      ·rw [if_neg c13] at H
       obtain ⟨c13b0, c13b1⟩ := eqF c13
       obtain ⟨t486, A17, H⟩ := bs_ H; try dsimp only at H
       by_cases c18 : t486.size + x3_1.size ≤ 9223372036854775807
       ·rw [if_pos c18] at H
        have c18b0 := eq_true c18
        have c18b1 : decide (t486.size + x3_1.size ≤ 9223372036854775807) = true := decide_eq_true c18
        try have c18b2 : (9223372036854775807 < t486.size + x3_1.size) = False := eq_false (Nat.not_lt.2 c18)
        by_cases c19 : (t486 ++ x3_1).size + 4 ≤ 9223372036854775807
        ·rw [if_pos c19] at H
         have c19b0 := eq_true c19
         have c19_y0 : ((9223372036854775807 < t486.size + x3_1.size + 4) : Prop) = False := eq_false (by have h_ := c19; simp only [ByteArray.size_append] at h_; exact Nat.not_lt.2 h_)
         have c19_z0 : ((t486.size + x3_1.size + 4 ≤ 9223372036854775807) : Prop) = True := eq_true (by have h_ := c19; simp only [ByteArray.size_append] at h_; exact h_)
         have c19b1 : decide ((t486 ++ x3_1).size + 4 ≤ 9223372036854775807) = true := decide_eq_true c19
         try have c19b2 : (9223372036854775807 < (t486 ++ x3_1).size + 4) = False := eq_false (Nat.not_lt.2 c19)
         by_cases c20 : ((t486 ++ x3_1) ++ (⟨#[32, 68, 44, 32]⟩ : ByteArray)).size + x5_6.size ≤ 9223372036854775807
         ·rw [if_pos c20] at H
          have c20b0 := eq_true c20
          have c20_y0 : ((9223372036854775807 < t486.size + x3_1.size + 4 + x5_6.size) : Prop) = False := eq_false (by have h_ := c20; simp only [ByteArray.size_append] at h_; exact Nat.not_lt.2 h_)
          have c20_z0 : ((t486.size + x3_1.size + 4 + x5_6.size ≤ 9223372036854775807) : Prop) = True := eq_true (by have h_ := c20; simp only [ByteArray.size_append] at h_; exact h_)
          have c20b1 : decide (((t486 ++ x3_1) ++ (⟨#[32, 68, 44, 32]⟩ : ByteArray)).size + x5_6.size ≤ 9223372036854775807) = true := decide_eq_true c20
          try have c20b2 : (9223372036854775807 < ((t486 ++ x3_1) ++ (⟨#[32, 68, 44, 32]⟩ : ByteArray)).size + x5_6.size) = False := eq_false (Nat.not_lt.2 c20)
          obtain rfl := Option.some.inj H
          have hcz21 := blk_all5 BK484.out
          go_wp2_with (first | ((with_reducible refine gate_callee (f := 36) rfl ?_); refine sh_call (some 27) Tryd.func36 #[.int .i64 1, .int .i64 a0_1] ?_; (with_reducible refine (stockaderef03_name.calls 1 a0_1 t486 _ A17.out).mono ?_); rintro e w' ⟨rfl, ⟨nd, rfl⟩⟩; refine ⟨_, rfl, ?_⟩))
          go_ret
          exact ⟨ret_now, b_now⟩
         ·rw [if_neg c20] at H
          exact absurd H (by simp)
        ·rw [if_neg c19] at H
         exact absurd H (by simp)
       ·rw [if_neg c18] at H
        exact absurd H (by simp)
     ·rw [if_neg c12] at H
      obtain ⟨c12b0, c12b1⟩ := eqF c12
      by_cases c22 : a0_0 = 2
      ·rw [if_pos c22] at H
       obtain ⟨c22b0, c22b1⟩ := eqT c22
       clear c22
       by_cases c23 : 4 + t485.size ≤ 9223372036854775807
       ·rw [if_pos c23] at H
        have c23b0 := eq_true c23
        have c23b1 : decide (4 + t485.size ≤ 9223372036854775807) = true := decide_eq_true c23
        try have c23b2 : (9223372036854775807 < 4 + t485.size) = False := eq_false (Nat.not_lt.2 c23)
        by_cases c24 : ((⟨#[115, 119, 97, 112]⟩ : ByteArray) ++ t485).size + 2 ≤ 9223372036854775807
        ·rw [if_pos c24] at H
         have c24b0 := eq_true c24
         have c24_y0 : ((9223372036854775807 < 4 + t485.size + 2) : Prop) = False := eq_false (by have h_ := c24; simp only [ByteArray.size_append] at h_; exact Nat.not_lt.2 h_)
         have c24_z0 : ((4 + t485.size + 2 ≤ 9223372036854775807) : Prop) = True := eq_true (by have h_ := c24; simp only [ByteArray.size_append] at h_; exact h_)
         have c24b1 : decide (((⟨#[115, 119, 97, 112]⟩ : ByteArray) ++ t485).size + 2 ≤ 9223372036854775807) = true := decide_eq_true c24
         try have c24b2 : (9223372036854775807 < ((⟨#[115, 119, 97, 112]⟩ : ByteArray) ++ t485).size + 2) = False := eq_false (Nat.not_lt.2 c24)
         obtain rfl := Option.some.inj H
         have hcz25 := blk_all5 BK484.out
         go_wp2
         go_ret
         exact ⟨ret_now, b_now⟩
        ·rw [if_neg c24] at H
         exact absurd H (by simp)
       ·rw [if_neg c23] at H
        exact absurd H (by simp)
      ·rw [if_neg c22] at H
       obtain ⟨c22b0, c22b1⟩ := eqF c22
       by_cases c26 : a0_0 = 3
       ·rw [if_pos c26] at H
        obtain ⟨c26b0, c26b1⟩ := eqT c26
        clear c26
        by_cases c27 : 4 + t485.size ≤ 9223372036854775807
        ·rw [if_pos c27] at H
         have c27b0 := eq_true c27
         have c27b1 : decide (4 + t485.size ≤ 9223372036854775807) = true := decide_eq_true c27
         try have c27b2 : (9223372036854775807 < 4 + t485.size) = False := eq_false (Nat.not_lt.2 c27)
         by_cases c28 : ((⟨#[108, 111, 97, 100]⟩ : ByteArray) ++ t485).size + 6 ≤ 9223372036854775807
         ·rw [if_pos c28] at H
          have c28b0 := eq_true c28
          have c28_y0 : ((9223372036854775807 < 4 + t485.size + 6) : Prop) = False := eq_false (by have h_ := c28; simp only [ByteArray.size_append] at h_; exact Nat.not_lt.2 h_)
          have c28_z0 : ((4 + t485.size + 6 ≤ 9223372036854775807) : Prop) = True := eq_true (by have h_ := c28; simp only [ByteArray.size_append] at h_; exact h_)
          have c28b1 : decide (((⟨#[108, 111, 97, 100]⟩ : ByteArray) ++ t485).size + 6 ≤ 9223372036854775807) = true := decide_eq_true c28
          try have c28b2 : (9223372036854775807 < ((⟨#[108, 111, 97, 100]⟩ : ByteArray) ++ t485).size + 6) = False := eq_false (Nat.not_lt.2 c28)
          obtain rfl := Option.some.inj H
          have hcz29 := blk_all5 BK484.out
          go_wp2
          go_ret
          exact ⟨ret_now, b_now⟩
         ·rw [if_neg c28] at H
          exact absurd H (by simp)
        ·rw [if_neg c27] at H
         exact absurd H (by simp)
       ·rw [if_neg c26] at H
        obtain ⟨c26b0, c26b1⟩ := eqF c26
        by_cases c30 : a0_0 = 4
        ·rw [if_pos c30] at H
         obtain ⟨c30b0, c30b1⟩ := eqT c30
         clear c30
         by_cases c31 : 5 + t485.size ≤ 9223372036854775807
         ·rw [if_pos c31] at H
          have c31b0 := eq_true c31
          have c31b1 : decide (5 + t485.size ≤ 9223372036854775807) = true := decide_eq_true c31
          try have c31b2 : (9223372036854775807 < 5 + t485.size) = False := eq_false (Nat.not_lt.2 c31)
          by_cases c32 : ((⟨#[115, 116, 111, 114, 101]⟩ : ByteArray) ++ t485).size + 6 ≤ 9223372036854775807
          ·rw [if_pos c32] at H
           have c32b0 := eq_true c32
           have c32_y0 : ((9223372036854775807 < 5 + t485.size + 6) : Prop) = False := eq_false (by have h_ := c32; simp only [ByteArray.size_append] at h_; exact Nat.not_lt.2 h_)
           have c32_z0 : ((5 + t485.size + 6 ≤ 9223372036854775807) : Prop) = True := eq_true (by have h_ := c32; simp only [ByteArray.size_append] at h_; exact h_)
           have c32b1 : decide (((⟨#[115, 116, 111, 114, 101]⟩ : ByteArray) ++ t485).size + 6 ≤ 9223372036854775807) = true := decide_eq_true c32
           try have c32b2 : (9223372036854775807 < ((⟨#[115, 116, 111, 114, 101]⟩ : ByteArray) ++ t485).size + 6) = False := eq_false (Nat.not_lt.2 c32)
           obtain rfl := Option.some.inj H
           have hcz33 := blk_all5 BK484.out
           go_wp2
           go_ret
           exact ⟨ret_now, b_now⟩
          ·rw [if_neg c32] at H
           exact absurd H (by simp)
         ·rw [if_neg c31] at H
          exact absurd H (by simp)
        ·rw [if_neg c30] at H
         obtain ⟨c30b0, c30b1⟩ := eqF c30
         by_cases c34 : a0_0 = 5
         ·rw [if_pos c34] at H
          obtain ⟨c34b0, c34b1⟩ := eqT c34
          clear c34
          by_cases c35 : 3 + t485.size ≤ 9223372036854775807
          ·rw [if_pos c35] at H
           have c35b0 := eq_true c35
           have c35b1 : decide (3 + t485.size ≤ 9223372036854775807) = true := decide_eq_true c35
           try have c35b2 : (9223372036854775807 < 3 + t485.size) = False := eq_false (Nat.not_lt.2 c35)
           by_cases c36 : ((⟨#[112, 117, 116]⟩ : ByteArray) ++ t485).size + 6 ≤ 9223372036854775807
           ·rw [if_pos c36] at H
            have c36b0 := eq_true c36
            have c36_y0 : ((9223372036854775807 < 3 + t485.size + 6) : Prop) = False := eq_false (by have h_ := c36; simp only [ByteArray.size_append] at h_; exact Nat.not_lt.2 h_)
            have c36_z0 : ((3 + t485.size + 6 ≤ 9223372036854775807) : Prop) = True := eq_true (by have h_ := c36; simp only [ByteArray.size_append] at h_; exact h_)
            have c36b1 : decide (((⟨#[112, 117, 116]⟩ : ByteArray) ++ t485).size + 6 ≤ 9223372036854775807) = true := decide_eq_true c36
            try have c36b2 : (9223372036854775807 < ((⟨#[112, 117, 116]⟩ : ByteArray) ++ t485).size + 6) = False := eq_false (Nat.not_lt.2 c36)
            obtain rfl := Option.some.inj H
            have hcz37 := blk_all5 BK484.out
            go_wp2
            go_ret
            exact ⟨ret_now, b_now⟩
           ·rw [if_neg c36] at H
            exact absurd H (by simp)
          ·rw [if_neg c35] at H
           exact absurd H (by simp)
         ·rw [if_neg c34] at H
          obtain ⟨c34b0, c34b1⟩ := eqF c34
          by_cases c38 : a0_0 = 6
          ·rw [if_pos c38] at H
           obtain ⟨c38b0, c38b1⟩ := eqT c38
           clear c38
           obtain ⟨t487, A39, H⟩ := bs_ H; try dsimp only at H
           by_cases c40 : t487.size + x3_1.size ≤ 9223372036854775807
           ·rw [if_pos c40] at H
            have c40b0 := eq_true c40
            have c40b1 : decide (t487.size + x3_1.size ≤ 9223372036854775807) = true := decide_eq_true c40
            try have c40b2 : (9223372036854775807 < t487.size + x3_1.size) = False := eq_false (Nat.not_lt.2 c40)
            by_cases c41 : (t487 ++ x3_1).size + 4 ≤ 9223372036854775807
            ·rw [if_pos c41] at H
             have c41b0 := eq_true c41
             have c41_y0 : ((9223372036854775807 < t487.size + x3_1.size + 4) : Prop) = False := eq_false (by have h_ := c41; simp only [ByteArray.size_append] at h_; exact Nat.not_lt.2 h_)
             have c41_z0 : ((t487.size + x3_1.size + 4 ≤ 9223372036854775807) : Prop) = True := eq_true (by have h_ := c41; simp only [ByteArray.size_append] at h_; exact h_)
             have c41b1 : decide ((t487 ++ x3_1).size + 4 ≤ 9223372036854775807) = true := decide_eq_true c41
             try have c41b2 : (9223372036854775807 < (t487 ++ x3_1).size + 4) = False := eq_false (Nat.not_lt.2 c41)
             by_cases c42 : ((t487 ++ x3_1) ++ (⟨#[32, 68, 44, 32]⟩ : ByteArray)).size + x5_6.size ≤ 9223372036854775807
             ·rw [if_pos c42] at H
              have c42b0 := eq_true c42
              have c42_y0 : ((9223372036854775807 < t487.size + x3_1.size + 4 + x5_6.size) : Prop) = False := eq_false (by have h_ := c42; simp only [ByteArray.size_append] at h_; exact Nat.not_lt.2 h_)
              have c42_z0 : ((t487.size + x3_1.size + 4 + x5_6.size ≤ 9223372036854775807) : Prop) = True := eq_true (by have h_ := c42; simp only [ByteArray.size_append] at h_; exact h_)
              have c42b1 : decide (((t487 ++ x3_1) ++ (⟨#[32, 68, 44, 32]⟩ : ByteArray)).size + x5_6.size ≤ 9223372036854775807) = true := decide_eq_true c42
              try have c42b2 : (9223372036854775807 < ((t487 ++ x3_1) ++ (⟨#[32, 68, 44, 32]⟩ : ByteArray)).size + x5_6.size) = False := eq_false (Nat.not_lt.2 c42)
              by_cases c43 : (((t487 ++ x3_1) ++ (⟨#[32, 68, 44, 32]⟩ : ByteArray)) ++ x5_6).size + 3 ≤ 9223372036854775807
              ·rw [if_pos c43] at H
               have c43b0 := eq_true c43
               have c43_y0 : ((9223372036854775807 < t487.size + x3_1.size + 4 + x5_6.size + 3) : Prop) = False := eq_false (by have h_ := c43; simp only [ByteArray.size_append] at h_; exact Nat.not_lt.2 h_)
               have c43_z0 : ((t487.size + x3_1.size + 4 + x5_6.size + 3 ≤ 9223372036854775807) : Prop) = True := eq_true (by have h_ := c43; simp only [ByteArray.size_append] at h_; exact h_)
               have c43b1 : decide ((((t487 ++ x3_1) ++ (⟨#[32, 68, 44, 32]⟩ : ByteArray)) ++ x5_6).size + 3 ≤ 9223372036854775807) = true := decide_eq_true c43
               try have c43b2 : (9223372036854775807 < (((t487 ++ x3_1) ++ (⟨#[32, 68, 44, 32]⟩ : ByteArray)) ++ x5_6).size + 3) = False := eq_false (Nat.not_lt.2 c43)
               obtain rfl := Option.some.inj H
               have hcz44 := blk_all5 BK484.out
               go_wp2_with (first | ((with_reducible refine gate_callee (f := 36) rfl ?_); refine sh_call (some 57) Tryd.func36 #[.int .i64 6, .int .i64 a0_1] ?_; (with_reducible refine (stockaderef03_name.calls 6 a0_1 t487 _ A39.out).mono ?_); rintro e w' ⟨rfl, ⟨nd, rfl⟩⟩; refine ⟨_, rfl, ?_⟩))
               go_ret
               exact ⟨ret_now, b_now⟩
              ·rw [if_neg c43] at H
               exact absurd H (by simp)
             ·rw [if_neg c42] at H
              exact absurd H (by simp)
            ·rw [if_neg c41] at H
             exact absurd H (by simp)
           ·rw [if_neg c40] at H
            exact absurd H (by simp)
          ·rw [if_neg c38] at H
           obtain ⟨c38b0, c38b1⟩ := eqF c38
           by_cases c45 : a0_0 = 7
           ·rw [if_pos c45] at H
            obtain ⟨c45b0, c45b1⟩ := eqT c45
            clear c45
            obtain rfl := Option.some.inj H
            have hcz46 := blk_all5 BK484.out
            go_wp2
            go_ret
            exact ⟨ret_now, b_now⟩
           ·rw [if_neg c45] at H
            obtain ⟨c45b0, c45b1⟩ := eqF c45
            by_cases c47 : a0_0 = 8
            ·rw [if_pos c47] at H
             obtain ⟨c47b0, c47b1⟩ := eqT c47
             clear c47
             obtain rfl := Option.some.inj H
             have hcz48 := blk_all5 BK484.out
             go_wp2
             go_ret
             exact ⟨ret_now, b_now⟩
            ·rw [if_neg c47] at H
             obtain ⟨c47b0, c47b1⟩ := eqF c47
             by_cases c49 : a0_0 = 9
             ·rw [if_pos c49] at H
              obtain ⟨c49b0, c49b1⟩ := eqT c49
              clear c49
              obtain rfl := Option.some.inj H
              have hcz50 := blk_all5 BK484.out
              go_wp2
              go_ret
              exact ⟨ret_now, b_now⟩
             ·rw [if_neg c49] at H
              obtain ⟨c49b0, c49b1⟩ := eqF c49
              by_cases c51 : a0_0 = 10
              ·rw [if_pos c51] at H
               obtain ⟨c51b0, c51b1⟩ := eqT c51
               clear c51
               obtain rfl := Option.some.inj H
               have hcz52 := blk_all5 BK484.out
               go_wp2
               go_ret
               exact ⟨ret_now, b_now⟩
              ·rw [if_neg c51] at H
               obtain ⟨c51b0, c51b1⟩ := eqF c51
               obtain rfl := Option.some.inj H
               have hcz53 := blk_all5 BK484.out
               go_wp2
               go_ret
               exact ⟨ret_now, b_now⟩

end Go.Proofs.YtondogoepcndiaaDoor.P
