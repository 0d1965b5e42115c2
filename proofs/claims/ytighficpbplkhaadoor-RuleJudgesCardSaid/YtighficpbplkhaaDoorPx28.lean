/- Made by this session's driver over the kit's printer: for each Go function a Lean function with the same answers, and a proof that the Go call comes to these answers; no conditions but the ones each theorem names. -/
import Derived.Test.YtighficpbplkhaaDoorPx0
import Derived.Test.YtighficpbplkhaaDoorPx23
namespace Go.Proofs.YtighficpbplkhaaDoor.P
open Go.RowKit Go.Proofs.YtighficpbplkhaaDoorW.PrintWords Go.Proofs.YtighficpbplkhaaDoorW.PrintLast Go.Proofs.YtighficpbplkhaaDoorW.PrintMore
attribute [local go_sem] max2_int min2_int max_two min_two max_three min_three max_four min_four   -- for this text's walks alone
set_option linter.unusedVariables false
set_option linter.unusedSimpArgs false

/-! ### stockaderef18_Asked: function 36 -/
mutual
def stockaderef18_Asked.j0 : Nat → List Int → Int → Bool → Int → Int → Int → Int → Int → Int → Option (Int × Bool)
 | 0, _, _, _, _, _, _, _, _, _ => none
 | k + 1, x1, x8, x370000, x370001, x370002, x370003, x370004, x370005, x370006 => stockaderef18_Asked.l0 k x1 x8 0 0 x370000 x370001 x370002 x370003 x370004 x370005 x370006
def stockaderef18_Asked.l0 : Nat → List Int → Int → Int → Int → Bool → Int → Int → Int → Int → Int → Int → Option (Int × Bool)
 | 0, _, _, _, _, _, _, _, _, _, _, _ => none
 | k + 1, x1, x8, x9, x10, x370000, x370001, x370002, x370003, x370004, x370005, x370006 => if x10 < x370003 then (if (wrap64 (x8 + x10)) ≥ (x1.length : Int) then (some (0, false)) else (if 0 ≤ (wrap64 (x8 + x10)) then (if (wrap64 (x8 + x10)) < (x1.length : Int) then (stockaderef18_Asked.l0 k x1 x8 (IntKind.u64.wrap ((IntKind.u64.wrap (256 * x9)) + (IntKind.u64.wrap (rd x1 (wrap64 (x8 + x10)))))) (wrap64 (x10 + 1)) x370000 x370001 x370002 x370003 x370004 x370005 x370006) else (none)) else (none))) else (some (Go.bits .and .u64 x9 x370004, true))
end
def stockaderef18_Asked.f (k : Nat) (a0_0 : Bool) (a0_1 : Int) (a0_2 : Int) (a0_3 : Int) (a0_4 : Int) (a0_5 : Int) (a0_6 : Int) (l1 : List Int) (a2 : Int) : Option (Int × Bool) := if a0_1 = 1 then (some (IntKind.u64.wrap ((l1.length : Int)), true)) else (if a0_1 = 2 then (some (IntKind.u64.wrap (a2), true)) else (if a0_1 = 4 then (if (l1.length : Int) ≤ 14 then (some (0, false)) else (if 14 < (l1.length : Int) then (stockaderef18_Asked.j0 k l1 (wrap64 ((wrap64 (a0_2 + 14)) + (wrap64 (4 * (wrap64 (Int.tmod (rd l1 14) 16)))))) a0_0 a0_1 a0_2 a0_3 a0_4 a0_5 a0_6) else (none))) else (stockaderef18_Asked.j0 k l1 a0_2 a0_0 a0_1 a0_2 a0_3 a0_4 a0_5 a0_6)))
theorem stockaderef18_Asked.mono_l : ∀ k, (∀ y0 y1 y2 y3 y4 y5 y6 y7 y8, LeO (stockaderef18_Asked.j0 k y0 y1 y2 y3 y4 y5 y6 y7 y8) (stockaderef18_Asked.j0 (k + 1) y0 y1 y2 y3 y4 y5 y6 y7 y8)) ∧ (∀ y0 y1 y2 y3 y4 y5 y6 y7 y8 y9 y10, LeO (stockaderef18_Asked.l0 k y0 y1 y2 y3 y4 y5 y6 y7 y8 y9 y10) (stockaderef18_Asked.l0 (k + 1) y0 y1 y2 y3 y4 y5 y6 y7 y8 y9 y10))
 | 0 => ⟨fun _ _ _ _ _ _ _ _ _ r h => by simp [stockaderef18_Asked.j0] at h, fun _ _ _ _ _ _ _ _ _ _ _ r h => by simp [stockaderef18_Asked.l0] at h⟩
 | k + 1 => by
  obtain ⟨ih0, ih1⟩ := stockaderef18_Asked.mono_l k
  refine ⟨?_, ?_⟩
  ·intro y0 y1 y2 y3 y4 y5 y6 y7 y8
   unfold stockaderef18_Asked.j0
   repeat' first
   | (with_reducible exact ih0 _ _ _ _ _ _ _ _ _)
   | (with_reducible exact ih1 _ _ _ _ _ _ _ _ _ _ _)
   | (with_reducible exact LeO.refl _)
   | (with_reducible exact LeO.none _)
   | (with_reducible refine LeO.ite ?_ ?_)
   | (with_reducible refine LeO.bind ?_ (fun _ => ?_))
   | exact ih0 _ _ _ _ _ _ _ _ _
   | exact ih1 _ _ _ _ _ _ _ _ _ _ _
   | exact LeO.none _
   | refine LeO.ite ?_ ?_
   | refine LeO.bind ?_ (fun _ => ?_)
  ·intro y0 y1 y2 y3 y4 y5 y6 y7 y8 y9 y10
   unfold stockaderef18_Asked.l0
   repeat' first
   | (with_reducible exact ih0 _ _ _ _ _ _ _ _ _)
   | (with_reducible exact ih1 _ _ _ _ _ _ _ _ _ _ _)
   | (with_reducible exact LeO.refl _)
   | (with_reducible exact LeO.none _)
   | (with_reducible refine LeO.ite ?_ ?_)
   | (with_reducible refine LeO.bind ?_ (fun _ => ?_))
   | exact ih0 _ _ _ _ _ _ _ _ _
   | exact ih1 _ _ _ _ _ _ _ _ _ _ _
   | exact LeO.none _
   | refine LeO.ite ?_ ?_
   | refine LeO.bind ?_ (fun _ => ?_)
theorem stockaderef18_Asked.mono : ∀ a0 a1 a2 a3 a4 a5 a6 a7 a8 k, LeO (stockaderef18_Asked.f k a0 a1 a2 a3 a4 a5 a6 a7 a8) (stockaderef18_Asked.f (k + 1) a0 a1 a2 a3 a4 a5 a6 a7 a8) := by
 intro a0 a1 a2 a3 a4 a5 a6 a7 a8 k
 obtain ⟨ih0, ih1⟩ := stockaderef18_Asked.mono_l k
 unfold stockaderef18_Asked.f
 repeat' first
   | (with_reducible exact ih0 _ _ _ _ _ _ _ _ _)
   | (with_reducible exact ih1 _ _ _ _ _ _ _ _ _ _ _)
   | (with_reducible exact LeO.refl _)
   | (with_reducible exact LeO.none _)
   | (with_reducible refine LeO.ite ?_ ?_)
   | (with_reducible refine LeO.bind ?_ (fun _ => ?_))
   | exact ih0 _ _ _ _ _ _ _ _ _
   | exact ih1 _ _ _ _ _ _ _ _ _ _ _
   | exact LeO.none _
   | refine LeO.ite ?_ ?_
   | refine LeO.bind ?_ (fun _ => ?_)
set_option maxHeartbeats 8000000 in
set_option maxRecDepth 100000 in
theorem stockaderef18_Asked.calls (k : Nat) (a0_0 : Bool) (a0_1 : Int) (a0_2 : Int) (a0_3 : Int) (a0_4 : Int) (a0_5 : Int) (a0_6 : Int) (A1 : Option Addr) (c1 : Nat) (l1 : List Int) (a2 : Int) (r1 : Int) (r2 : Bool) (w : World) (hr1 : Kd.C (Kd.int .u8) w A1 l1.length l1) (hc1 : l1.length ≤ c1) (h : stockaderef18_Asked.f k a0_0 a0_1 a0_2 a0_3 a0_4 a0_5 a0_6 l1 a2 = some (r1, r2)) :
  Calls Tryd.prog 36 #[.agg #[.bool a0_0, .int .i64 a0_1, .int .i64 a0_2, .int .i64 a0_3, .int .u64 a0_4, .int .u64 a0_5, .int .u64 a0_6], .slice A1 l1.length c1, .int .u32 a2] w fun e w' => e = .returned (.tuple #[.int .u64 r1, .bool r2]) ∧ Below w.heap.size w w' := by
 have hu55 := Tryd.underlying55
 have HR1 := Aside0.mk hr1
 have HC1 := Aside0.mk hc1
 clear hr1 hc1
 have HB := Aside0.mk (Below.refl w.heap.size w)
 have H : (if a0_1 = 1 then (some (IntKind.u64.wrap ((l1.length : Int)), true)) else (if a0_1 = 2 then (some (IntKind.u64.wrap (a2), true)) else (if a0_1 = 4 then (if (l1.length : Int) ≤ 14 then (some (0, false)) else (if 14 < (l1.length : Int) then (stockaderef18_Asked.j0 k l1 (wrap64 ((wrap64 (a0_2 + 14)) + (wrap64 (4 * (wrap64 (Int.tmod (rd l1 14) 16)))))) a0_0 a0_1 a0_2 a0_3 a0_4 a0_5 a0_6) else (none))) else (stockaderef18_Asked.j0 k l1 a0_2 a0_0 a0_1 a0_2 a0_3 a0_4 a0_5 a0_6)))) = some (r1, r2) := h
 clear h
 by_cases c4 : a0_1 = 1
 ·rw [if_pos c4] at H
  have c4b0 : (a0_1 == 1) = true := beq_iff_eq.mpr c4
  have c4b1 : (a0_1 != 1) = false := bne_eq_false_iff_eq.mpr c4
  clear c4
  simp only [Option.some.injEq, Prod.mk.injEq] at H
  obtain ⟨rfl, rfl⟩ := H
  go_enter Tryd.func36, Tryd.ntmps36
  go_wp2_with (first | ((with_reducible refine gate_dst (N := 3) rfl ?_); refine sh_box 3 #[.bool a0_0, .int .i64 a0_1, .int .i64 a0_2, .int .i64 a0_3, .int .u64 a0_4, .int .u64 a0_5, .int .u64 a0_6] 55 ?_; intro gb369 hg w5 hbox hb; have GE369 := sh_z (w := w) hg; replace HB := sh_b (w := w) hb; have BK369 := Aside0.mk (hbox); clear hb hbox hg; have hcz6 := blk_all7 BK369.out))
  go_ret2
  exact ⟨ret_now, b_now⟩
 ·rw [if_neg c4] at H
  have c4b0 : (a0_1 == 1) = false := beq_eq_false_iff_ne.mpr c4
  have c4b1 : (a0_1 != 1) = true := bne_iff_ne.mpr c4
  by_cases c7 : a0_1 = 2
  ·rw [if_pos c7] at H
   have c7b0 : (a0_1 == 2) = true := beq_iff_eq.mpr c7
   have c7b1 : (a0_1 != 2) = false := bne_eq_false_iff_eq.mpr c7
   clear c7
   simp only [Option.some.injEq, Prod.mk.injEq] at H
   obtain ⟨rfl, rfl⟩ := H
   go_enter Tryd.func36, Tryd.ntmps36
   go_wp2_with (first | ((with_reducible refine gate_dst (N := 3) rfl ?_); refine sh_box 3 #[.bool a0_0, .int .i64 a0_1, .int .i64 a0_2, .int .i64 a0_3, .int .u64 a0_4, .int .u64 a0_5, .int .u64 a0_6] 55 ?_; intro gb369 hg w8 hbox hb; have GE369 := sh_z (w := w) hg; replace HB := sh_b (w := w) hb; have BK369 := Aside0.mk (hbox); clear hb hbox hg; have hcz9 := blk_all7 BK369.out))
   go_ret2
   exact ⟨ret_now, b_now⟩
  ·rw [if_neg c7] at H
   have c7b0 : (a0_1 == 2) = false := beq_eq_false_iff_ne.mpr c7
   have c7b1 : (a0_1 != 2) = true := bne_iff_ne.mpr c7
   have HC10 := Aside0.mk H
   clear H
   go_enter Tryd.func36, Tryd.ntmps36
   go_upto_if 26 with (first | ((with_reducible refine gate_dst (N := 3) rfl ?_); refine sh_box 3 #[.bool a0_0, .int .i64 a0_1, .int .i64 a0_2, .int .i64 a0_3, .int .u64 a0_4, .int .u64 a0_5, .int .u64 a0_6] 55 ?_; intro gb369 hg w11 hbox hb; have GE369 := sh_z (w := w) hg; replace HB := sh_b (w := w) hb; have BK369 := Aside0.mk (hbox); clear hb hbox hg; have hcz12 := blk_all7 BK369.out))
   (try simp only [Act.put, List.setIfInBounds_toArray, List.set_cons_zero, List.set_cons_succ])
   go_cut [8] (fun v8 wc => ∃ (kq : Nat) (x8_9 : Int), v8 = .int .i64 x8_9 ∧ Aside0 (stockaderef18_Asked.j0 kq l1 x8_9 a0_0 a0_1 a0_2 a0_3 a0_4 a0_5 a0_6 = some (r1, r2)) ∧ Aside0 (kq ≤ k) ∧ Aside0 (wc.heap[gb369]? = some (.cells #[.bool a0_0, .int .i64 a0_1, .int .i64 a0_2, .int .i64 a0_3, .int .u64 a0_4, .int .u64 a0_5, .int .u64 a0_6] 55 (0, 0))) ∧ Aside0 (Below w.heap.size w wc))
   case first =>
    have H := HC10.out
    clear HC10
    by_cases c13 : a0_1 = 4
    ·rw [if_pos c13] at H
     have c13b0 : (a0_1 == 4) = true := beq_iff_eq.mpr c13
     have c13b1 : (a0_1 != 4) = false := bne_eq_false_iff_eq.mpr c13
     clear c13
     (first | rw [c13b0] | (simp only [i64_w, i32_w]; rw [c13b0]) | skip)
     by_cases c14 : (l1.length : Int) ≤ 14
     ·rw [if_pos c14] at H
      have c14b0 : decide ((l1.length : Int) ≤ 14) = true := decide_eq_true c14
      have c14b1 : decide (l1.length ≤ 14) = true := decide_eq_true (by omega)
      clear c14
      simp only [Option.some.injEq, Prod.mk.injEq] at H
      obtain ⟨rfl, rfl⟩ := H
      go_wp2
      go_ret2
      exact ⟨ret_now, b_now⟩
     ·rw [if_neg c14] at H
      have c14b0 : decide ((l1.length : Int) ≤ 14) = false := decide_eq_false c14
      have c14b1 : decide (l1.length ≤ 14) = false := decide_eq_false (by omega)
      clear c14
      by_cases c15 : 14 < (l1.length : Int)
      ·rw [if_pos c15] at H
       have c15b0 : decide (14 < (l1.length : Int)) = true := decide_eq_true c15
       have c15b1 : decide (14 < l1.length) = true := decide_eq_true (by omega)
       clear c15
       have H' := Aside0.mk H
       clear H
       have p370 : 0 ≤ (14 : Int) := (by omega)
       have q370 : 14 < (l1.length : Int) := of_decide_eq_true (by first | (with_reducible assumption) | assumption)
       obtain ⟨ad370, e370, hx370_0⟩ := Kd.at_int HR1.out 14 p370 q370
       cases e370
       (try simp only [show (14 : Int).toNat = 14 from rfl, Nat.reduceMul, Nat.reduceEqDiff, Go.Addr.add, ↓reduceIte] at hx370_0)
       have qi370 : (14 < l1.length) = True := eq_true (by omega)
       (try rw [show ((14 : Int)).toNat = 14 from rfl] at hx370_0)
       replace hx370_0 := (HB.out.cell (World.block_lt_of_cell? w _ hx370_0)).trans hx370_0
       replace p370 := eq_true p370
       replace q370 := eq_true q370
       go_wp2
       go_meet
       case rel => exact ⟨_, (wrap64 ((wrap64 (a0_2 + 14)) + (wrap64 (4 * (wrap64 (Int.tmod (rd l1 14) 16)))))), eq_now, H', ⟨by first | omega | exact Nat.le_refl _⟩, ⟨bk_now⟩, ⟨b_now⟩⟩
      ·rw [if_neg c15] at H
       exact absurd H (by simp)
    ·rw [if_neg c13] at H
     have c13b0 : (a0_1 == 4) = false := beq_eq_false_iff_ne.mpr c13
     have c13b1 : (a0_1 != 4) = true := bne_iff_ne.mpr c13
     (first | rw [c13b0] | (simp only [i64_w, i32_w]; rw [c13b0]) | skip)
     have H' := Aside0.mk H
     clear H
     go_wp2
     go_meet
     case rel => exact ⟨_, (a0_2), eq_now, H', ⟨by first | omega | exact Nat.le_refl _⟩, ⟨bk_now⟩, ⟨b_now⟩⟩
   case rest =>
    clear HC10
    try clear c1
    try clear p2
    try clear c3
    try clear p3
    try clear q3
    try clear hx3
    try clear qi3
    try clear c4
    try clear c4b0
    try clear c4b1
    try clear p6
    try clear c7
    try clear c7b0
    try clear c7b1
    try clear c13
    try clear c13b0
    try clear c13b1
    try clear c14
    try clear c14b0
    try clear c14b1
    try clear c15
    try clear c15b0
    try clear c15b1
    try clear hcz12
    try clear hcz6
    try clear hcz9
    try clear hx370_0
    try clear p370
    try clear q370
    obtain ⟨kq, x8_9, rfl, HA, HJ9, BK369, HB⟩ := hcut
    cases kq with
    | zero => exact absurd HA.out (by simp [stockaderef18_Asked.j0])
    | succ kj9 =>
     have H := HA.out
     clear HA
     simp only [stockaderef18_Asked.j0] at H
     have H' := Aside0.mk H
     clear H
     go_wp2
     go_loopg [9, 10] kj9 (fun kq v9 v10 w' => ∃ (x9_2 : Int) (x10_2 : Int), v9 = .int .u64 x9_2 ∧ v10 = .int .i64 x10_2 ∧ Aside0 (stockaderef18_Asked.l0 kq l1 x8_9 x9_2 x10_2 a0_0 a0_1 a0_2 a0_3 a0_4 a0_5 a0_6 = some (r1, r2)) ∧ Aside0 (kq ≤ kj9) ∧ Aside0 (w'.heap[gb369]? = some (.cells #[.bool a0_0, .int .i64 a0_1, .int .i64 a0_2, .int .i64 a0_3, .int .u64 a0_4, .int .u64 a0_5, .int .u64 a0_6] 55 (0, 0))) ∧ Aside0 (Below w.heap.size w w'))
     case atStart => exact ⟨(0), (0), eq_now, eq_now, H', ⟨Nat.le_refl _⟩, ⟨bk_now⟩, ⟨b_now⟩⟩
     case round =>
      clear H'
      try clear c1
      try clear p2
      try clear c3
      try clear p3
      try clear q3
      try clear hx3
      try clear qi3
      try clear c4
      try clear c4b0
      try clear c4b1
      try clear p6
      try clear c7
      try clear c7b0
      try clear c7b1
      try clear c13
      try clear c13b0
      try clear c13b1
      try clear c14
      try clear c14b0
      try clear c14b1
      try clear c15
      try clear c15b0
      try clear c15b1
      try clear hcz12
      try clear hcz6
      try clear hcz9
      try clear hx370_0
      try clear p2
      try clear p3
      try clear p370
      try clear p6
      try clear q3
      try clear q370
      obtain ⟨x9_2, x10_2, rfl, rfl, HA, HK2, BK369, HB⟩ := hrel
      cases gk with
      | zero => exact absurd HA.out (by simp [stockaderef18_Asked.l0])
      | succ k2 =>
       have H := HA.out
       clear HA
       simp only [stockaderef18_Asked.l0] at H
       by_cases c16 : x10_2 < a0_3
       ·rw [if_pos c16] at H
        have c16b0 : decide (x10_2 < a0_3) = true := decide_eq_true c16
        clear c16
        by_cases c17 : (wrap64 (x8_9 + x10_2)) ≥ (l1.length : Int)
        ·rw [if_pos c17] at H
         have c17b0 : decide ((l1.length : Int) ≤ (wrap64 (x8_9 + x10_2))) = true := decide_eq_true c17
         clear c17
         simp only [Option.some.injEq, Prod.mk.injEq] at H
         obtain ⟨rfl, rfl⟩ := H
         have hcz18 := blk_all7 BK369.out
         go_wp2
         go_ret2
         exact ⟨ret_now, b_now⟩
        ·rw [if_neg c17] at H
         have c17b0 : decide ((l1.length : Int) ≤ (wrap64 (x8_9 + x10_2))) = false := decide_eq_false c17
         clear c17
         obtain ⟨ji19, hji19⟩ : ∃ j_ : Int, (wrap64 (x8_9 + x10_2)) = j_ := ⟨_, rfl⟩
         replace H : (if 0 ≤ (ji19) then (if (ji19) < (l1.length : Int) then (stockaderef18_Asked.l0 k2 l1 x8_9 (IntKind.u64.wrap ((IntKind.u64.wrap (256 * x9_2)) + (IntKind.u64.wrap (rd l1 (ji19))))) (wrap64 (x10_2 + 1)) a0_0 a0_1 a0_2 a0_3 a0_4 a0_5 a0_6) else (none)) else (none)) = some (r1, r2) := by first | (rw [hji19] at H; exact H) | (simp only [hji19] at H ⊢; exact H)
         (try rw [hji19] at c17b0)
         have hji19w : (IntKind.i64.wrap (x8_9 + x10_2)) = ji19 := (i64_w _).trans hji19
         by_cases c20 : 0 ≤ (ji19)
         ·rw [if_pos c20] at H
          have c20b0 : decide (0 ≤ (ji19)) = true := decide_eq_true c20
          clear c20
          by_cases c21 : (ji19) < (l1.length : Int)
          ·rw [if_pos c21] at H
           have c21b0 : decide ((ji19) < (l1.length : Int)) = true := decide_eq_true c21
           clear c21
           have H' := Aside0.mk H
           clear H
           have hcz22 := blk_all7 BK369.out
           have p371 : 0 ≤ ((ji19) : Int) := of_decide_eq_true (by first | (with_reducible assumption) | assumption)
           have q371 : (ji19) < (l1.length : Int) := of_decide_eq_true (by first | (with_reducible assumption) | assumption)
           obtain ⟨ad371, e371, hx371_0⟩ := Kd.at_int HR1.out (ji19) p371 q371
           cases e371
           replace hx371_0 := (HB.out.cell (World.block_lt_of_cell? w _ hx371_0)).trans hx371_0
           replace p371 := eq_true p371
           replace q371 := eq_true q371
           go_wp2
           go_roundg k2
           case measure => have := HJ9.out; have := HK2.out; omega
           case rel => exact ⟨(IntKind.u64.wrap ((IntKind.u64.wrap (256 * x9_2)) + (IntKind.u64.wrap (rd l1 (ji19))))), (wrap64 (x10_2 + 1)), (by first | rfl | (simp; done) | (simp only [← hji19] <;> (first | rfl | simp)) | (simp [*]; done)), eq_now, H', ⟨by have := HJ9.out; have := HK2.out; omega⟩, ⟨bk_now⟩, ⟨b_now⟩⟩
          ·rw [if_neg c21] at H
           exact absurd H (by simp)
         ·rw [if_neg c20] at H
          exact absurd H (by simp)
       ·rw [if_neg c16] at H
        have c16b0 : decide (x10_2 < a0_3) = false := decide_eq_false c16
        clear c16
        simp only [Option.some.injEq, Prod.mk.injEq] at H
        obtain ⟨rfl, rfl⟩ := H
        have hcz23 := blk_all7 BK369.out
        go_wp2
        go_ret2
        exact ⟨ret_now, b_now⟩

/-! ### stockaderef18_Holds: function 21 -/
def stockaderef18_Holds.f (k : Nat) (a0_0 : Bool) (a0_1 : Int) (a0_2 : Int) (a0_3 : Int) (a0_4 : Int) (a0_5 : Int) (a0_6 : Int) (l1 : List Int) (a2 : Int) : Option (Bool) := (stockaderef18_May.f k a0_0 a0_1 a0_2 a0_3 a0_4 a0_5 a0_6).bind fun t373 => (if t373 = true then ((stockaderef18_Asked.f k a0_0 a0_1 a0_2 a0_3 a0_4 a0_5 a0_6 l1 a2).bind fun bt374 => (if bt374.2 = true then (if bt374.1 ≥ a0_5 then (if a0_0 = true then (some (!(decide (bt374.1 ≤ a0_6)))) else (some (decide (bt374.1 ≤ a0_6)))) else (if a0_0 = true then (some (!false)) else (some false))) else (if a0_0 = true then (some (!false)) else (some false)))) else (some false))
theorem stockaderef18_Holds.mono : ∀ a0 a1 a2 a3 a4 a5 a6 a7 a8 k, LeO (stockaderef18_Holds.f k a0 a1 a2 a3 a4 a5 a6 a7 a8) (stockaderef18_Holds.f (k + 1) a0 a1 a2 a3 a4 a5 a6 a7 a8) := by
 intro a0 a1 a2 a3 a4 a5 a6 a7 a8 k
 unfold stockaderef18_Holds.f
 repeat' first
   | (with_reducible exact stockaderef18_Asked.mono _ _ _ _ _ _ _ _ _ _)
   | (with_reducible exact stockaderef18_May.mono _ _ _ _ _ _ _ _)
   | (with_reducible exact LeO.refl _)
   | (with_reducible exact LeO.none _)
   | (with_reducible refine LeO.ite ?_ ?_)
   | (with_reducible refine LeO.bind ?_ (fun _ => ?_))
   | exact stockaderef18_Asked.mono _ _ _ _ _ _ _ _ _ _
   | exact stockaderef18_May.mono _ _ _ _ _ _ _ _
   | exact LeO.none _
   | refine LeO.ite ?_ ?_
   | refine LeO.bind ?_ (fun _ => ?_)
set_option maxHeartbeats 8000000 in
set_option maxRecDepth 100000 in
theorem stockaderef18_Holds.calls (k : Nat) (a0_0 : Bool) (a0_1 : Int) (a0_2 : Int) (a0_3 : Int) (a0_4 : Int) (a0_5 : Int) (a0_6 : Int) (A1 : Option Addr) (c1 : Nat) (l1 : List Int) (a2 : Int) (r : Bool) (w : World) (hr1 : Kd.C (Kd.int .u8) w A1 l1.length l1) (hc1 : l1.length ≤ c1) (h : stockaderef18_Holds.f k a0_0 a0_1 a0_2 a0_3 a0_4 a0_5 a0_6 l1 a2 = some r) :
  Calls Tryd.prog 21 #[.agg #[.bool a0_0, .int .i64 a0_1, .int .i64 a0_2, .int .i64 a0_3, .int .u64 a0_4, .int .u64 a0_5, .int .u64 a0_6], .slice A1 l1.length c1, .int .u32 a2] w fun e w' => e = .returned (.bool r) ∧ Below w.heap.size w w' := by
 have hu55 := Tryd.underlying55
 have HR1 := Aside0.mk hr1
 have HC1 := Aside0.mk hc1
 clear hr1 hc1
 have HB := Aside0.mk (Below.refl w.heap.size w)
 have H : ((stockaderef18_May.f k a0_0 a0_1 a0_2 a0_3 a0_4 a0_5 a0_6).bind fun t373 => (if t373 = true then ((stockaderef18_Asked.f k a0_0 a0_1 a0_2 a0_3 a0_4 a0_5 a0_6 l1 a2).bind fun bt374 => (if bt374.2 = true then (if bt374.1 ≥ a0_5 then (if a0_0 = true then (some (!(decide (bt374.1 ≤ a0_6)))) else (some (decide (bt374.1 ≤ a0_6)))) else (if a0_0 = true then (some (!false)) else (some false))) else (if a0_0 = true then (some (!false)) else (some false)))) else (some false))) = some r := h
 clear h
 replace H := Option.bind_eq_some_iff.mp H; obtain ⟨t373, A40, H⟩ := H; try dsimp only at H
 have A4 := Aside0.mk A40
 clear A40
 by_cases c5 : t373 = true
 ·subst c5
  replace H := sh_t H
  replace H := Option.bind_eq_some_iff.mp H; obtain ⟨⟨t374, t375⟩, A60, H⟩ := H; try dsimp only at H
  have A6 := Aside0.mk A60
  clear A60
  by_cases c7 : t375 = true
  ·subst c7
   replace H := sh_t H
   by_cases c8 : t374 ≥ a0_5
   ·rw [if_pos c8] at H
    have c8b0 : decide (a0_5 ≤ t374) = true := decide_eq_true c8
    clear c8
    by_cases c9 : a0_0 = true
    ·subst c9
     replace H := sh_t H
     obtain rfl := Option.some.inj H
     go_enter Tryd.func21, Tryd.ntmps21
     go_wp2_with (first | ((with_reducible refine gate_dst (N := 3) rfl ?_); refine sh_box 3 #[.bool true, .int .i64 a0_1, .int .i64 a0_2, .int .i64 a0_3, .int .u64 a0_4, .int .u64 a0_5, .int .u64 a0_6] 55 ?_; intro gb372 hg w10 hbox hb; have GE372 := sh_z (w := w) hg; replace HB := sh_b (w := w) hb; have BK372 := Aside0.mk (hbox); clear hb hbox hg; have hcz11 := blk_all7 BK372.out) | ((with_reducible refine gate_callee (f := 29) rfl ?_); refine sh_call (some 11) Tryd.func29 #[.agg #[.bool true, .int .i64 a0_1, .int .i64 a0_2, .int .i64 a0_3, .int .u64 a0_4, .int .u64 a0_5, .int .u64 a0_6]] ?_; (with_reducible refine (stockaderef18_May.calls k true a0_1 a0_2 a0_3 a0_4 a0_5 a0_6 true _ A4.out).mono ?_); rintro e w12 ⟨rfl, hb⟩; refine ⟨_, rfl, ?_⟩; replace BK372 := sh_k BK372 hb; replace HB := sh_b (w := w) hb; (try clear hb); (try clear hb2); (try clear hk); (try clear hi); have hcz13 := blk_all7 BK372.out) | ((with_reducible refine gate_callee (f := 36) rfl ?_); refine sh_call (some 17) Tryd.func36 #[.agg #[.bool true, .int .i64 a0_1, .int .i64 a0_2, .int .i64 a0_3, .int .u64 a0_4, .int .u64 a0_5, .int .u64 a0_6], .slice A1 l1.length c1, .int .u32 a2] ?_; (with_reducible refine (stockaderef18_Asked.calls k true a0_1 a0_2 a0_3 a0_4 a0_5 a0_6 _ _ l1 a2 t374 true _ ?side1 ?side2 A6.out).mono ?_); (case side1 => repeat (first | exact (Kd.C_below HR1.out HB.out) | (with_reducible refine Kd.C_alloc ?_ _) | (with_reducible refine Kd.C_drewN ?_ _) | (with_reducible refine Kd.C_drew ?_))); (case side2 => exact HC1.out); rintro e w14 ⟨rfl, hb⟩; refine ⟨_, rfl, ?_⟩; replace BK372 := sh_k BK372 hb; replace HB := sh_b (w := w) hb; (try clear hb); (try clear hb2); (try clear hk); (try clear hi); have hcz15 := blk_all7 BK372.out))
     go_ret
     exact ⟨ret_now, b_now⟩
    ·replace c9 := Bool.eq_false_iff.mpr c9
     subst c9
     replace H := sh_f H
     obtain rfl := Option.some.inj H
     go_enter Tryd.func21, Tryd.ntmps21
     go_wp2_with (first | ((with_reducible refine gate_dst (N := 3) rfl ?_); refine sh_box 3 #[.bool false, .int .i64 a0_1, .int .i64 a0_2, .int .i64 a0_3, .int .u64 a0_4, .int .u64 a0_5, .int .u64 a0_6] 55 ?_; intro gb372 hg w16 hbox hb; have GE372 := sh_z (w := w) hg; replace HB := sh_b (w := w) hb; have BK372 := Aside0.mk (hbox); clear hb hbox hg; have hcz17 := blk_all7 BK372.out) | ((with_reducible refine gate_callee (f := 29) rfl ?_); refine sh_call (some 11) Tryd.func29 #[.agg #[.bool false, .int .i64 a0_1, .int .i64 a0_2, .int .i64 a0_3, .int .u64 a0_4, .int .u64 a0_5, .int .u64 a0_6]] ?_; (with_reducible refine (stockaderef18_May.calls k false a0_1 a0_2 a0_3 a0_4 a0_5 a0_6 true _ A4.out).mono ?_); rintro e w18 ⟨rfl, hb⟩; refine ⟨_, rfl, ?_⟩; replace BK372 := sh_k BK372 hb; replace HB := sh_b (w := w) hb; (try clear hb); (try clear hb2); (try clear hk); (try clear hi); have hcz19 := blk_all7 BK372.out) | ((with_reducible refine gate_callee (f := 36) rfl ?_); refine sh_call (some 17) Tryd.func36 #[.agg #[.bool false, .int .i64 a0_1, .int .i64 a0_2, .int .i64 a0_3, .int .u64 a0_4, .int .u64 a0_5, .int .u64 a0_6], .slice A1 l1.length c1, .int .u32 a2] ?_; (with_reducible refine (stockaderef18_Asked.calls k false a0_1 a0_2 a0_3 a0_4 a0_5 a0_6 _ _ l1 a2 t374 true _ ?side1 ?side2 A6.out).mono ?_); (case side1 => repeat (first | exact (Kd.C_below HR1.out HB.out) | (with_reducible refine Kd.C_alloc ?_ _) | (with_reducible refine Kd.C_drewN ?_ _) | (with_reducible refine Kd.C_drew ?_))); (case side2 => exact HC1.out); rintro e w20 ⟨rfl, hb⟩; refine ⟨_, rfl, ?_⟩; replace BK372 := sh_k BK372 hb; replace HB := sh_b (w := w) hb; (try clear hb); (try clear hb2); (try clear hk); (try clear hi); have hcz21 := blk_all7 BK372.out))
     go_ret
     exact ⟨ret_now, b_now⟩
   ·rw [if_neg c8] at H
    have c8b0 : decide (a0_5 ≤ t374) = false := decide_eq_false c8
    clear c8
    by_cases c22 : a0_0 = true
    ·subst c22
     replace H := sh_t H
     obtain rfl := Option.some.inj H
     go_enter Tryd.func21, Tryd.ntmps21
     go_wp2_with (first | ((with_reducible refine gate_dst (N := 3) rfl ?_); refine sh_box 3 #[.bool true, .int .i64 a0_1, .int .i64 a0_2, .int .i64 a0_3, .int .u64 a0_4, .int .u64 a0_5, .int .u64 a0_6] 55 ?_; intro gb372 hg w23 hbox hb; have GE372 := sh_z (w := w) hg; replace HB := sh_b (w := w) hb; have BK372 := Aside0.mk (hbox); clear hb hbox hg; have hcz24 := blk_all7 BK372.out) | ((with_reducible refine gate_callee (f := 29) rfl ?_); refine sh_call (some 11) Tryd.func29 #[.agg #[.bool true, .int .i64 a0_1, .int .i64 a0_2, .int .i64 a0_3, .int .u64 a0_4, .int .u64 a0_5, .int .u64 a0_6]] ?_; (with_reducible refine (stockaderef18_May.calls k true a0_1 a0_2 a0_3 a0_4 a0_5 a0_6 true _ A4.out).mono ?_); rintro e w25 ⟨rfl, hb⟩; refine ⟨_, rfl, ?_⟩; replace BK372 := sh_k BK372 hb; replace HB := sh_b (w := w) hb; (try clear hb); (try clear hb2); (try clear hk); (try clear hi); have hcz26 := blk_all7 BK372.out) | ((with_reducible refine gate_callee (f := 36) rfl ?_); refine sh_call (some 17) Tryd.func36 #[.agg #[.bool true, .int .i64 a0_1, .int .i64 a0_2, .int .i64 a0_3, .int .u64 a0_4, .int .u64 a0_5, .int .u64 a0_6], .slice A1 l1.length c1, .int .u32 a2] ?_; (with_reducible refine (stockaderef18_Asked.calls k true a0_1 a0_2 a0_3 a0_4 a0_5 a0_6 _ _ l1 a2 t374 true _ ?side1 ?side2 A6.out).mono ?_); (case side1 => repeat (first | exact (Kd.C_below HR1.out HB.out) | (with_reducible refine Kd.C_alloc ?_ _) | (with_reducible refine Kd.C_drewN ?_ _) | (with_reducible refine Kd.C_drew ?_))); (case side2 => exact HC1.out); rintro e w27 ⟨rfl, hb⟩; refine ⟨_, rfl, ?_⟩; replace BK372 := sh_k BK372 hb; replace HB := sh_b (w := w) hb; (try clear hb); (try clear hb2); (try clear hk); (try clear hi); have hcz28 := blk_all7 BK372.out))
     go_ret
     exact ⟨ret_now, b_now⟩
    ·replace c22 := Bool.eq_false_iff.mpr c22
     subst c22
     replace H := sh_f H
     obtain rfl := Option.some.inj H
     go_enter Tryd.func21, Tryd.ntmps21
     go_wp2_with (first | ((with_reducible refine gate_dst (N := 3) rfl ?_); refine sh_box 3 #[.bool false, .int .i64 a0_1, .int .i64 a0_2, .int .i64 a0_3, .int .u64 a0_4, .int .u64 a0_5, .int .u64 a0_6] 55 ?_; intro gb372 hg w29 hbox hb; have GE372 := sh_z (w := w) hg; replace HB := sh_b (w := w) hb; have BK372 := Aside0.mk (hbox); clear hb hbox hg; have hcz30 := blk_all7 BK372.out) | ((with_reducible refine gate_callee (f := 29) rfl ?_); refine sh_call (some 11) Tryd.func29 #[.agg #[.bool false, .int .i64 a0_1, .int .i64 a0_2, .int .i64 a0_3, .int .u64 a0_4, .int .u64 a0_5, .int .u64 a0_6]] ?_; (with_reducible refine (stockaderef18_May.calls k false a0_1 a0_2 a0_3 a0_4 a0_5 a0_6 true _ A4.out).mono ?_); rintro e w31 ⟨rfl, hb⟩; refine ⟨_, rfl, ?_⟩; replace BK372 := sh_k BK372 hb; replace HB := sh_b (w := w) hb; (try clear hb); (try clear hb2); (try clear hk); (try clear hi); have hcz32 := blk_all7 BK372.out) | ((with_reducible refine gate_callee (f := 36) rfl ?_); refine sh_call (some 17) Tryd.func36 #[.agg #[.bool false, .int .i64 a0_1, .int .i64 a0_2, .int .i64 a0_3, .int .u64 a0_4, .int .u64 a0_5, .int .u64 a0_6], .slice A1 l1.length c1, .int .u32 a2] ?_; (with_reducible refine (stockaderef18_Asked.calls k false a0_1 a0_2 a0_3 a0_4 a0_5 a0_6 _ _ l1 a2 t374 true _ ?side1 ?side2 A6.out).mono ?_); (case side1 => repeat (first | exact (Kd.C_below HR1.out HB.out) | (with_reducible refine Kd.C_alloc ?_ _) | (with_reducible refine Kd.C_drewN ?_ _) | (with_reducible refine Kd.C_drew ?_))); (case side2 => exact HC1.out); rintro e w33 ⟨rfl, hb⟩; refine ⟨_, rfl, ?_⟩; replace BK372 := sh_k BK372 hb; replace HB := sh_b (w := w) hb; (try clear hb); (try clear hb2); (try clear hk); (try clear hi); have hcz34 := blk_all7 BK372.out))
     go_ret
     exact ⟨ret_now, b_now⟩
  ·replace c7 := Bool.eq_false_iff.mpr c7
   subst c7
   replace H := sh_f H
   by_cases c35 : a0_0 = true
   ·subst c35
    replace H := sh_t H
    obtain rfl := Option.some.inj H
    go_enter Tryd.func21, Tryd.ntmps21
    go_wp2_with (first | ((with_reducible refine gate_dst (N := 3) rfl ?_); refine sh_box 3 #[.bool true, .int .i64 a0_1, .int .i64 a0_2, .int .i64 a0_3, .int .u64 a0_4, .int .u64 a0_5, .int .u64 a0_6] 55 ?_; intro gb372 hg w36 hbox hb; have GE372 := sh_z (w := w) hg; replace HB := sh_b (w := w) hb; have BK372 := Aside0.mk (hbox); clear hb hbox hg; have hcz37 := blk_all7 BK372.out) | ((with_reducible refine gate_callee (f := 29) rfl ?_); refine sh_call (some 11) Tryd.func29 #[.agg #[.bool true, .int .i64 a0_1, .int .i64 a0_2, .int .i64 a0_3, .int .u64 a0_4, .int .u64 a0_5, .int .u64 a0_6]] ?_; (with_reducible refine (stockaderef18_May.calls k true a0_1 a0_2 a0_3 a0_4 a0_5 a0_6 true _ A4.out).mono ?_); rintro e w38 ⟨rfl, hb⟩; refine ⟨_, rfl, ?_⟩; replace BK372 := sh_k BK372 hb; replace HB := sh_b (w := w) hb; (try clear hb); (try clear hb2); (try clear hk); (try clear hi); have hcz39 := blk_all7 BK372.out) | ((with_reducible refine gate_callee (f := 36) rfl ?_); refine sh_call (some 17) Tryd.func36 #[.agg #[.bool true, .int .i64 a0_1, .int .i64 a0_2, .int .i64 a0_3, .int .u64 a0_4, .int .u64 a0_5, .int .u64 a0_6], .slice A1 l1.length c1, .int .u32 a2] ?_; (with_reducible refine (stockaderef18_Asked.calls k true a0_1 a0_2 a0_3 a0_4 a0_5 a0_6 _ _ l1 a2 t374 false _ ?side1 ?side2 A6.out).mono ?_); (case side1 => repeat (first | exact (Kd.C_below HR1.out HB.out) | (with_reducible refine Kd.C_alloc ?_ _) | (with_reducible refine Kd.C_drewN ?_ _) | (with_reducible refine Kd.C_drew ?_))); (case side2 => exact HC1.out); rintro e w40 ⟨rfl, hb⟩; refine ⟨_, rfl, ?_⟩; replace BK372 := sh_k BK372 hb; replace HB := sh_b (w := w) hb; (try clear hb); (try clear hb2); (try clear hk); (try clear hi); have hcz41 := blk_all7 BK372.out))
    go_ret
    exact ⟨ret_now, b_now⟩
   ·replace c35 := Bool.eq_false_iff.mpr c35
    subst c35
    replace H := sh_f H
    obtain rfl := Option.some.inj H
    go_enter Tryd.func21, Tryd.ntmps21
    go_wp2_with (first | ((with_reducible refine gate_dst (N := 3) rfl ?_); refine sh_box 3 #[.bool false, .int .i64 a0_1, .int .i64 a0_2, .int .i64 a0_3, .int .u64 a0_4, .int .u64 a0_5, .int .u64 a0_6] 55 ?_; intro gb372 hg w42 hbox hb; have GE372 := sh_z (w := w) hg; replace HB := sh_b (w := w) hb; have BK372 := Aside0.mk (hbox); clear hb hbox hg; have hcz43 := blk_all7 BK372.out) | ((with_reducible refine gate_callee (f := 29) rfl ?_); refine sh_call (some 11) Tryd.func29 #[.agg #[.bool false, .int .i64 a0_1, .int .i64 a0_2, .int .i64 a0_3, .int .u64 a0_4, .int .u64 a0_5, .int .u64 a0_6]] ?_; (with_reducible refine (stockaderef18_May.calls k false a0_1 a0_2 a0_3 a0_4 a0_5 a0_6 true _ A4.out).mono ?_); rintro e w44 ⟨rfl, hb⟩; refine ⟨_, rfl, ?_⟩; replace BK372 := sh_k BK372 hb; replace HB := sh_b (w := w) hb; (try clear hb); (try clear hb2); (try clear hk); (try clear hi); have hcz45 := blk_all7 BK372.out) | ((with_reducible refine gate_callee (f := 36) rfl ?_); refine sh_call (some 17) Tryd.func36 #[.agg #[.bool false, .int .i64 a0_1, .int .i64 a0_2, .int .i64 a0_3, .int .u64 a0_4, .int .u64 a0_5, .int .u64 a0_6], .slice A1 l1.length c1, .int .u32 a2] ?_; (with_reducible refine (stockaderef18_Asked.calls k false a0_1 a0_2 a0_3 a0_4 a0_5 a0_6 _ _ l1 a2 t374 false _ ?side1 ?side2 A6.out).mono ?_); (case side1 => repeat (first | exact (Kd.C_below HR1.out HB.out) | (with_reducible refine Kd.C_alloc ?_ _) | (with_reducible refine Kd.C_drewN ?_ _) | (with_reducible refine Kd.C_drew ?_))); (case side2 => exact HC1.out); rintro e w46 ⟨rfl, hb⟩; refine ⟨_, rfl, ?_⟩; replace BK372 := sh_k BK372 hb; replace HB := sh_b (w := w) hb; (try clear hb); (try clear hb2); (try clear hk); (try clear hi); have hcz47 := blk_all7 BK372.out))
    go_ret
    exact ⟨ret_now, b_now⟩
 ·replace c5 := Bool.eq_false_iff.mpr c5
  subst c5
  replace H := sh_f H
  obtain rfl := Option.some.inj H
  go_enter Tryd.func21, Tryd.ntmps21
  go_wp2_with (first | ((with_reducible refine gate_dst (N := 3) rfl ?_); refine sh_box 3 #[.bool a0_0, .int .i64 a0_1, .int .i64 a0_2, .int .i64 a0_3, .int .u64 a0_4, .int .u64 a0_5, .int .u64 a0_6] 55 ?_; intro gb372 hg w48 hbox hb; have GE372 := sh_z (w := w) hg; replace HB := sh_b (w := w) hb; have BK372 := Aside0.mk (hbox); clear hb hbox hg; have hcz49 := blk_all7 BK372.out) | ((with_reducible refine gate_callee (f := 29) rfl ?_); refine sh_call (some 11) Tryd.func29 #[.agg #[.bool a0_0, .int .i64 a0_1, .int .i64 a0_2, .int .i64 a0_3, .int .u64 a0_4, .int .u64 a0_5, .int .u64 a0_6]] ?_; (with_reducible refine (stockaderef18_May.calls k a0_0 a0_1 a0_2 a0_3 a0_4 a0_5 a0_6 false _ A4.out).mono ?_); rintro e w50 ⟨rfl, hb⟩; refine ⟨_, rfl, ?_⟩; replace BK372 := sh_k BK372 hb; replace HB := sh_b (w := w) hb; (try clear hb); (try clear hb2); (try clear hk); (try clear hi)))
  go_ret
  exact ⟨ret_now, b_now⟩

/-! ### stockaderef18_Judge: function 19 -/
mutual
def stockaderef18_Judge.l0 : Nat → List (S46) → List Int → Int → Int → Option (Int × Int)
 | 0, _, _, _, _ => none
 | k + 1, x0, x1, x2, x8 => if x8 < (x0.length : Int) then (stockaderef18_Judge.l1 k x0 x1 x2 x8 true 0) else (some (0, (-1)))
def stockaderef18_Judge.l1 : Nat → List (S46) → List Int → Int → Int → Bool → Int → Option (Int × Int)
 | 0, _, _, _, _, _, _ => none
 | k + 1, x0, x1, x2, x8, x9, x10 => if 0 ≤ x8 then (if x8 < (x0.length : Int) then (if x10 < (((rd_T46 x0 x8).f0).length : Int) then (if x9 = true then (if 0 ≤ x10 then ((stockaderef18_Holds.f k ((rd_T55 ((rd_T46 x0 x8).f0) x10).f0) ((rd_T55 ((rd_T46 x0 x8).f0) x10).f1) ((rd_T55 ((rd_T46 x0 x8).f0) x10).f2) ((rd_T55 ((rd_T46 x0 x8).f0) x10).f3) ((rd_T55 ((rd_T46 x0 x8).f0) x10).f4) ((rd_T55 ((rd_T46 x0 x8).f0) x10).f5) ((rd_T55 ((rd_T46 x0 x8).f0) x10).f6) x1 x2).bind fun t379 => (stockaderef18_Judge.l1 k x0 x1 x2 x8 t379 (wrap64 (x10 + 1)))) else (none)) else (stockaderef18_Judge.l1 k x0 x1 x2 x8 false (wrap64 (x10 + 1)))) else (if x9 = true then (some ((rd_T46 x0 x8).f1, x8)) else (stockaderef18_Judge.l0 k x0 x1 x2 (wrap64 (x8 + 1))))) else (none)) else (none)
end
def stockaderef18_Judge.f (k : Nat) (l0 : List (S46)) (l1 : List Int) (a2 : Int) : Option (Int × Int) := stockaderef18_Judge.l0 k l0 l1 a2 0
theorem stockaderef18_Judge.mono_l : ∀ k, (∀ y0 y1 y2 y3, LeO (stockaderef18_Judge.l0 k y0 y1 y2 y3) (stockaderef18_Judge.l0 (k + 1) y0 y1 y2 y3)) ∧ (∀ y0 y1 y2 y3 y4 y5, LeO (stockaderef18_Judge.l1 k y0 y1 y2 y3 y4 y5) (stockaderef18_Judge.l1 (k + 1) y0 y1 y2 y3 y4 y5))
 | 0 => ⟨fun _ _ _ _ r h => by simp [stockaderef18_Judge.l0] at h, fun _ _ _ _ _ _ r h => by simp [stockaderef18_Judge.l1] at h⟩
 | k + 1 => by
  obtain ⟨ih0, ih1⟩ := stockaderef18_Judge.mono_l k
  refine ⟨?_, ?_⟩
  ·intro y0 y1 y2 y3
   unfold stockaderef18_Judge.l0
   repeat' first
   | (with_reducible exact ih0 _ _ _ _)
   | (with_reducible exact ih1 _ _ _ _ _ _)
   | (with_reducible exact stockaderef18_Holds.mono _ _ _ _ _ _ _ _ _ _)
   | (with_reducible exact LeO.refl _)
   | (with_reducible exact LeO.none _)
   | (with_reducible refine LeO.ite ?_ ?_)
   | (with_reducible refine LeO.bind ?_ (fun _ => ?_))
   | exact ih0 _ _ _ _
   | exact ih1 _ _ _ _ _ _
   | exact stockaderef18_Holds.mono _ _ _ _ _ _ _ _ _ _
   | exact LeO.none _
   | refine LeO.ite ?_ ?_
   | refine LeO.bind ?_ (fun _ => ?_)
  ·intro y0 y1 y2 y3 y4 y5
   unfold stockaderef18_Judge.l1
   repeat' first
   | (with_reducible exact ih0 _ _ _ _)
   | (with_reducible exact ih1 _ _ _ _ _ _)
   | (with_reducible exact stockaderef18_Holds.mono _ _ _ _ _ _ _ _ _ _)
   | (with_reducible exact LeO.refl _)
   | (with_reducible exact LeO.none _)
   | (with_reducible refine LeO.ite ?_ ?_)
   | (with_reducible refine LeO.bind ?_ (fun _ => ?_))
   | exact ih0 _ _ _ _
   | exact ih1 _ _ _ _ _ _
   | exact stockaderef18_Holds.mono _ _ _ _ _ _ _ _ _ _
   | exact LeO.none _
   | refine LeO.ite ?_ ?_
   | refine LeO.bind ?_ (fun _ => ?_)
theorem stockaderef18_Judge.mono : ∀ a0 a1 a2 k, LeO (stockaderef18_Judge.f k a0 a1 a2) (stockaderef18_Judge.f (k + 1) a0 a1 a2) := by
 intro a0 a1 a2 k
 obtain ⟨ih0, ih1⟩ := stockaderef18_Judge.mono_l k
 unfold stockaderef18_Judge.f
 repeat' first
   | (with_reducible exact ih0 _ _ _ _)
   | (with_reducible exact ih1 _ _ _ _ _ _)
   | (with_reducible exact stockaderef18_Holds.mono _ _ _ _ _ _ _ _ _ _)
   | (with_reducible exact LeO.refl _)
   | (with_reducible exact LeO.none _)
   | (with_reducible refine LeO.ite ?_ ?_)
   | (with_reducible refine LeO.bind ?_ (fun _ => ?_))
   | exact ih0 _ _ _ _
   | exact ih1 _ _ _ _ _ _
   | exact stockaderef18_Holds.mono _ _ _ _ _ _ _ _ _ _
   | exact LeO.none _
   | refine LeO.ite ?_ ?_
   | refine LeO.bind ?_ (fun _ => ?_)
set_option maxHeartbeats 8000000 in
set_option maxRecDepth 100000 in
theorem stockaderef18_Judge.calls (k : Nat) (A0 : Option Addr) (c0 : Nat) (l0 : List (S46)) (A1 : Option Addr) (c1 : Nat) (l1 : List Int) (a2 : Int) (r1 : Int) (r2 : Int) (w : World) (hr0 : Kd.C k46 w A0 l0.length l0) (hc0 : l0.length ≤ c0) (hr1 : Kd.C (Kd.int .u8) w A1 l1.length l1) (hc1 : l1.length ≤ c1) (h : stockaderef18_Judge.f k l0 l1 a2 = some (r1, r2)) :
  Calls Tryd.prog 19 #[.slice A0 l0.length c0, .slice A1 l1.length c1, .int .u32 a2] w fun e w' => e = .returned (.tuple #[.int .u32 r1, .int .i64 r2]) ∧ Below w.heap.size w w' := by
 have hu55 := Tryd.underlying55
 have HR0 := Aside0.mk hr0
 have HC0 := Aside0.mk hc0
 clear hr0 hc0
 have HR1 := Aside0.mk hr1
 have HC1 := Aside0.mk hc1
 clear hr1 hc1
 have HB := Aside0.mk (Below.refl w.heap.size w)
 have H : (stockaderef18_Judge.l0 k l0 l1 a2 0) = some (r1, r2) := h
 clear h
 have H' := Aside0.mk H
 clear H
 go_enter Tryd.func19, Tryd.ntmps19
 go_wp2
 go_loopg [8] k (fun kq v8 w' => ∃ (x8_1 : Int), v8 = .int .i64 x8_1 ∧ Aside0 (stockaderef18_Judge.l0 kq l0 l1 a2 x8_1 = some (r1, r2)) ∧ Aside0 (kq ≤ k) ∧ Aside0 (Below w.heap.size w w'))
 case atStart => exact ⟨(0), eq_now, H', ⟨Nat.le_refl _⟩, ⟨b_now⟩⟩
 case round =>
  clear H'
  try clear c1
  try clear p2
  obtain ⟨x8_1, rfl, HA, HK1, HB⟩ := hrel
  cases gk with
  | zero => exact absurd HA.out (by simp [stockaderef18_Judge.l0])
  | succ k1 =>
   have H := HA.out
   clear HA
   simp only [stockaderef18_Judge.l0] at H
   by_cases c4 : x8_1 < (l0.length : Int)
   ·rw [if_pos c4] at H
    have c4b0 : decide (x8_1 < (l0.length : Int)) = true := decide_eq_true c4
    clear c4
    have H' := Aside0.mk H
    clear H
    go_wp2
    go_loopg [9, 10] k1 (fun kq v9 v10 w' => ∃ (x9_2 : Bool) (x10_2 : Int), v9 = .bool x9_2 ∧ v10 = .int .i64 x10_2 ∧ Aside0 (stockaderef18_Judge.l1 kq l0 l1 a2 x8_1 x9_2 x10_2 = some (r1, r2)) ∧ Aside0 (kq ≤ k1) ∧ Aside0 (Below w.heap.size w w'))
    case atStart => exact ⟨(true), (0), eq_now, eq_now, H', ⟨Nat.le_refl _⟩, ⟨b_now⟩⟩
    case round =>
     clear H'
     try clear c1
     try clear p2
     try clear c4
     try clear c4b0
     try clear p2
     obtain ⟨x9_2, x10_2, rfl, rfl, HA, HK2, HB⟩ := hrel
     cases gk with
     | zero => exact absurd HA.out (by simp [stockaderef18_Judge.l1])
     | succ k2 =>
      have H := HA.out
      clear HA
      simp only [stockaderef18_Judge.l1] at H
      by_cases c5 : 0 ≤ x8_1
      ·rw [if_pos c5] at H
       have c5b0 : decide (0 ≤ x8_1) = true := decide_eq_true c5
       clear c5
       by_cases c6 : x8_1 < (l0.length : Int)
       ·rw [if_pos c6] at H
        have c6b0 : decide (x8_1 < (l0.length : Int)) = true := decide_eq_true c6
        clear c6
        by_cases c7 : x10_2 < (((rd_T46 l0 x8_1).f0).length : Int)
        ·rw [if_pos c7] at H
         have c7b0 : decide (x10_2 < (((rd_T46 l0 x8_1).f0).length : Int)) = true := decide_eq_true c7
         clear c7
         by_cases c8 : x9_2 = true
         ·subst c8
          replace H := sh_t H
          by_cases c9 : 0 ≤ x10_2
          ·rw [if_pos c9] at H
           have c9b0 : decide (0 ≤ x10_2) = true := decide_eq_true c9
           clear c9
           replace H := Option.bind_eq_some_iff.mp H; obtain ⟨t379, A100, H⟩ := H; try dsimp only at H
           have A10 := Aside0.mk A100
           clear A100
           have H' := Aside0.mk H
           clear H
           have p376 : 0 ≤ (x8_1 : Int) := of_decide_eq_true (by first | (with_reducible assumption) | assumption)
           have q376 : x8_1 < (l0.length : Int) := of_decide_eq_true (by first | (with_reducible assumption) | assumption)
           obtain ⟨ad376, A376_0, c376_0, e376, hx376_0, hx376_1, hl376_0, hi376_0⟩ := at_T46 HR0.out x8_1 p376 q376
           cases e376
           replace hx376_0 := (HB.out.cell (World.block_lt_of_cell? w _ hx376_0)).trans hx376_0
           replace hx376_1 := (HB.out.cell (World.block_lt_of_cell? w _ hx376_1)).trans hx376_1
           have HR376_0 := Aside0.mk hi376_0
           have HC376_0 := Aside0.mk hl376_0
           clear hi376_0 hl376_0
           replace p376 := eq_true p376
           replace q376 := eq_true q376
           have p377 : 0 ≤ (x8_1 : Int) := of_decide_eq_true (by first | (with_reducible assumption) | assumption)
           have q377 : x8_1 < (l0.length : Int) := of_decide_eq_true (by first | (with_reducible assumption) | assumption)
           obtain ⟨ad377, A377_0, c377_0, e377, hx377_0, hx377_1, hl377_0, hi377_0⟩ := at_T46 HR0.out x8_1 p377 q377
           obtain rfl : ad376 = ad377 := (by injection e377)
           replace hx377_0 := (HB.out.cell (World.block_lt_of_cell? w _ hx377_0)).trans hx377_0
           replace hx377_1 := (HB.out.cell (World.block_lt_of_cell? w _ hx377_1)).trans hx377_1
           have HR377_0 := Aside0.mk hi377_0
           have HC377_0 := Aside0.mk hl377_0
           clear hi377_0 hl377_0
           replace p377 := eq_true p377
           replace q377 := eq_true q377
           have ea_ := Option.some.inj (hx376_0.symm.trans hx377_0)
           injection ea_ with ea_ en_ ec_
           subst ea_
           subst ec_
           clear en_
           have p378 : 0 ≤ (x10_2 : Int) := of_decide_eq_true (by first | (with_reducible assumption) | assumption)
           have q378 : x10_2 < (((rd_T46 l0 x8_1).f0).length : Int) := of_decide_eq_true (by first | (with_reducible assumption) | assumption)
           obtain ⟨ad378, e378, hx378_0, hx378_1, hx378_2, hx378_3, hx378_4, hx378_5, hx378_6⟩ := at_T55 HR377_0.out x10_2 p378 q378
           cases e378
           replace hx378_0 := (HB.out.cell (World.block_lt_of_cell? w _ hx378_0)).trans hx378_0
           replace hx378_1 := (HB.out.cell (World.block_lt_of_cell? w _ hx378_1)).trans hx378_1
           replace hx378_2 := (HB.out.cell (World.block_lt_of_cell? w _ hx378_2)).trans hx378_2
           replace hx378_3 := (HB.out.cell (World.block_lt_of_cell? w _ hx378_3)).trans hx378_3
           replace hx378_4 := (HB.out.cell (World.block_lt_of_cell? w _ hx378_4)).trans hx378_4
           replace hx378_5 := (HB.out.cell (World.block_lt_of_cell? w _ hx378_5)).trans hx378_5
           replace hx378_6 := (HB.out.cell (World.block_lt_of_cell? w _ hx378_6)).trans hx378_6
           replace p378 := eq_true p378
           replace q378 := eq_true q378
           go_wp2_with (first | (go_at_call 21; (with_reducible refine (stockaderef18_Holds.calls k2 ((rd_T55 ((rd_T46 l0 x8_1).f0) x10_2).f0) ((rd_T55 ((rd_T46 l0 x8_1).f0) x10_2).f1) ((rd_T55 ((rd_T46 l0 x8_1).f0) x10_2).f2) ((rd_T55 ((rd_T46 l0 x8_1).f0) x10_2).f3) ((rd_T55 ((rd_T46 l0 x8_1).f0) x10_2).f4) ((rd_T55 ((rd_T46 l0 x8_1).f0) x10_2).f5) ((rd_T55 ((rd_T46 l0 x8_1).f0) x10_2).f6) _ _ l1 a2 t379 _ ?side1 ?side2 A10.out).mono ?_); (case side1 => repeat (first | exact (Kd.C_below HR1.out HB.out) | (with_reducible refine Kd.C_alloc ?_ _) | (with_reducible refine Kd.C_drewN ?_ _) | (with_reducible refine Kd.C_drew ?_))); (case side2 => exact HC1.out); rintro e w11 ⟨rfl, hb⟩; replace HB := sh_b (w := w) hb; (try clear hb); (try clear hb2); (try clear hk); (try clear hi)))
           go_roundg k2
           case measure => have := HK1.out; have := HK2.out; omega
           case rel => exact ⟨(t379), (wrap64 (x10_2 + 1)), eq_now, eq_now, H', ⟨by have := HK1.out; have := HK2.out; omega⟩, ⟨b_now⟩⟩
          ·rw [if_neg c9] at H
           exact absurd H (by simp)
         ·replace c8 := Bool.eq_false_iff.mpr c8
          subst c8
          replace H := sh_f H
          have H' := Aside0.mk H
          clear H
          have p376 : 0 ≤ (x8_1 : Int) := of_decide_eq_true (by first | (with_reducible assumption) | assumption)
          have q376 : x8_1 < (l0.length : Int) := of_decide_eq_true (by first | (with_reducible assumption) | assumption)
          obtain ⟨ad376, A376_0, c376_0, e376, hx376_0, hx376_1, hl376_0, hi376_0⟩ := at_T46 HR0.out x8_1 p376 q376
          cases e376
          replace hx376_0 := (HB.out.cell (World.block_lt_of_cell? w _ hx376_0)).trans hx376_0
          replace hx376_1 := (HB.out.cell (World.block_lt_of_cell? w _ hx376_1)).trans hx376_1
          have HR376_0 := Aside0.mk hi376_0
          have HC376_0 := Aside0.mk hl376_0
          clear hi376_0 hl376_0
          replace p376 := eq_true p376
          replace q376 := eq_true q376
          go_wp2
          go_roundg k2
          case measure => have := HK1.out; have := HK2.out; omega
          case rel => exact ⟨(false), (wrap64 (x10_2 + 1)), eq_now, eq_now, H', ⟨by have := HK1.out; have := HK2.out; omega⟩, ⟨b_now⟩⟩
        ·rw [if_neg c7] at H
         have c7b0 : decide (x10_2 < (((rd_T46 l0 x8_1).f0).length : Int)) = false := decide_eq_false c7
         clear c7
         by_cases c12 : x9_2 = true
         ·subst c12
          replace H := sh_t H
          simp only [Option.some.injEq, Prod.mk.injEq] at H
          obtain ⟨rfl, rfl⟩ := H
          have p376 : 0 ≤ (x8_1 : Int) := of_decide_eq_true (by first | (with_reducible assumption) | assumption)
          have q376 : x8_1 < (l0.length : Int) := of_decide_eq_true (by first | (with_reducible assumption) | assumption)
          obtain ⟨ad376, A376_0, c376_0, e376, hx376_0, hx376_1, hl376_0, hi376_0⟩ := at_T46 HR0.out x8_1 p376 q376
          cases e376
          replace hx376_0 := (HB.out.cell (World.block_lt_of_cell? w _ hx376_0)).trans hx376_0
          replace hx376_1 := (HB.out.cell (World.block_lt_of_cell? w _ hx376_1)).trans hx376_1
          have HR376_0 := Aside0.mk hi376_0
          have HC376_0 := Aside0.mk hl376_0
          clear hi376_0 hl376_0
          replace p376 := eq_true p376
          replace q376 := eq_true q376
          have p380 : 0 ≤ (x8_1 : Int) := of_decide_eq_true (by first | (with_reducible assumption) | assumption)
          have q380 : x8_1 < (l0.length : Int) := of_decide_eq_true (by first | (with_reducible assumption) | assumption)
          obtain ⟨ad380, A380_0, c380_0, e380, hx380_0, hx380_1, hl380_0, hi380_0⟩ := at_T46 HR0.out x8_1 p380 q380
          obtain rfl : ad376 = ad380 := (by injection e380)
          replace hx380_0 := (HB.out.cell (World.block_lt_of_cell? w _ hx380_0)).trans hx380_0
          replace hx380_1 := (HB.out.cell (World.block_lt_of_cell? w _ hx380_1)).trans hx380_1
          have HR380_0 := Aside0.mk hi380_0
          have HC380_0 := Aside0.mk hl380_0
          clear hi380_0 hl380_0
          replace p380 := eq_true p380
          replace q380 := eq_true q380
          have ea_ := Option.some.inj (hx376_0.symm.trans hx380_0)
          injection ea_ with ea_ en_ ec_
          subst ea_
          subst ec_
          clear en_
          go_wp2
          go_ret2
          exact ⟨ret_now, b_now⟩
         ·replace c12 := Bool.eq_false_iff.mpr c12
          subst c12
          replace H := sh_f H
          have H' := Aside0.mk H
          clear H
          have p376 : 0 ≤ (x8_1 : Int) := of_decide_eq_true (by first | (with_reducible assumption) | assumption)
          have q376 : x8_1 < (l0.length : Int) := of_decide_eq_true (by first | (with_reducible assumption) | assumption)
          obtain ⟨ad376, A376_0, c376_0, e376, hx376_0, hx376_1, hl376_0, hi376_0⟩ := at_T46 HR0.out x8_1 p376 q376
          cases e376
          replace hx376_0 := (HB.out.cell (World.block_lt_of_cell? w _ hx376_0)).trans hx376_0
          replace hx376_1 := (HB.out.cell (World.block_lt_of_cell? w _ hx376_1)).trans hx376_1
          have HR376_0 := Aside0.mk hi376_0
          have HC376_0 := Aside0.mk hl376_0
          clear hi376_0 hl376_0
          replace p376 := eq_true p376
          replace q376 := eq_true q376
          go_wp2
          go_roundg k2
          case measure => have := HK1.out; have := HK2.out; omega
          case rel => exact ⟨(wrap64 (x8_1 + 1)), eq_now, H', ⟨by have := HK1.out; have := HK2.out; omega⟩, ⟨b_now⟩⟩
       ·rw [if_neg c6] at H
        exact absurd H (by simp)
      ·rw [if_neg c5] at H
       exact absurd H (by simp)
   ·rw [if_neg c4] at H
    have c4b0 : decide (x8_1 < (l0.length : Int)) = false := decide_eq_false c4
    clear c4
    simp only [Option.some.injEq, Prod.mk.injEq] at H
    obtain ⟨rfl, rfl⟩ := H
    go_wp2
    go_ret2
    exact ⟨ret_now, b_now⟩

end Go.Proofs.YtighficpbplkhaaDoor.P
