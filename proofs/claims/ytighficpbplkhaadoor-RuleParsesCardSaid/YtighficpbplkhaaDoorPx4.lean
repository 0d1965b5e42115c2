/- Made by this session's driver over the kit's printer: for each Go function a Lean function with the same answers, and a proof that the Go call comes to these answers; no conditions but the ones each theorem names. -/
import Derived.Test.YtighficpbplkhaaDoorPx0
import Derived.Test.YtighficpbplkhaaDoorPx3
namespace Go.Proofs.YtighficpbplkhaaDoor.P
open Go.RowKit Go.Proofs.YtighficpbplkhaaDoorW.PrintWords Go.Proofs.YtighficpbplkhaaDoorW.PrintLast Go.Proofs.YtighficpbplkhaaDoorW.PrintMore
attribute [local go_sem] max2_int min2_int max_two min_two max_three min_three max_four min_four   -- for this text's walks alone
set_option linter.unusedVariables false
set_option linter.unusedSimpArgs false

/-! ### rule_Check: function 13 -/
mutual
def rule_Check.l0 : Nat → List (S53) → Int → Int → Option (Int × Int)
 | 0, _, _, _ => none
 | k + 1, x11, x12, x13 => if x13 < x12 then (if 0 ≤ x13 then (if x13 < (x11.length : Int) then (if (((rd_T53 x11 x13).f0).length : Int) > 8 then (some (x13, 3)) else (rule_Check.l1 k x13 x11 x12 x13 ((rd_T53 x11 x13).f0) (((rd_T53 x11 x13).f0).length : Int) 0)) else (none)) else (none)) else (some (0, 0))
def rule_Check.l1 : Nat → Int → List (S53) → Int → Int → List (S50) → Int → Int → Option (Int × Int)
 | 0, _, _, _, _, _, _, _ => none
 | k + 1, x4, x11, x12, x13, x24, x25, x26 => if x26 < x25 then (if 0 ≤ x26 then (if x26 < (x24.length : Int) then ((rule_may.f k ((rd_T50 x24 x26).f0) ((rd_T50 x24 x26).f1) ((rd_T50 x24 x26).f2) ((rd_T50 x24 x26).f3) ((rd_T50 x24 x26).f4) ((rd_T50 x24 x26).f5) ((rd_T50 x24 x26).f6)).bind fun t109 => (if t109 = true then (rule_Check.l1 k x4 x11 x12 x13 x24 x25 (wrap64 (x26 + 1))) else (some (x4, 1)))) else (none)) else (none)) else (rule_Check.l0 k x11 x12 (wrap64 (x13 + 1)))
end
def rule_Check.f (k : Nat) (l0 : List (S53)) : Option (Int × Int) := if (l0.length : Int) > 32 then (some (0, 3)) else (rule_Check.l0 k l0 (l0.length : Int) 0)
theorem rule_Check.mono_l : ∀ k, (∀ y0 y1 y2, LeO (rule_Check.l0 k y0 y1 y2) (rule_Check.l0 (k + 1) y0 y1 y2)) ∧ (∀ y0 y1 y2 y3 y4 y5 y6, LeO (rule_Check.l1 k y0 y1 y2 y3 y4 y5 y6) (rule_Check.l1 (k + 1) y0 y1 y2 y3 y4 y5 y6))
 | 0 => ⟨fun _ _ _ r h => by simp [rule_Check.l0] at h, fun _ _ _ _ _ _ _ r h => by simp [rule_Check.l1] at h⟩
 | k + 1 => by
  obtain ⟨ih0, ih1⟩ := rule_Check.mono_l k
  refine ⟨?_, ?_⟩
  ·intro y0 y1 y2
   unfold rule_Check.l0
   repeat' first
   | (with_reducible exact ih0 _ _ _)
   | (with_reducible exact ih1 _ _ _ _ _ _ _)
   | (with_reducible exact rule_may.mono _ _ _ _ _ _ _ _)
   | (with_reducible exact LeO.refl _)
   | (with_reducible exact LeO.none _)
   | (with_reducible refine LeO.ite ?_ ?_)
   | (with_reducible refine LeO.bind ?_ (fun _ => ?_))
   | exact ih0 _ _ _
   | exact ih1 _ _ _ _ _ _ _
   | exact rule_may.mono _ _ _ _ _ _ _ _
   | exact LeO.none _
   | refine LeO.ite ?_ ?_
   | refine LeO.bind ?_ (fun _ => ?_)
  ·intro y0 y1 y2 y3 y4 y5 y6
   unfold rule_Check.l1
   repeat' first
   | (with_reducible exact ih0 _ _ _)
   | (with_reducible exact ih1 _ _ _ _ _ _ _)
   | (with_reducible exact rule_may.mono _ _ _ _ _ _ _ _)
   | (with_reducible exact LeO.refl _)
   | (with_reducible exact LeO.none _)
   | (with_reducible refine LeO.ite ?_ ?_)
   | (with_reducible refine LeO.bind ?_ (fun _ => ?_))
   | exact ih0 _ _ _
   | exact ih1 _ _ _ _ _ _ _
   | exact rule_may.mono _ _ _ _ _ _ _ _
   | exact LeO.none _
   | refine LeO.ite ?_ ?_
   | refine LeO.bind ?_ (fun _ => ?_)
theorem rule_Check.mono : ∀ a0 k, LeO (rule_Check.f k a0) (rule_Check.f (k + 1) a0) := by
 intro a0 k
 obtain ⟨ih0, ih1⟩ := rule_Check.mono_l k
 unfold rule_Check.f
 repeat' first
   | (with_reducible exact ih0 _ _ _)
   | (with_reducible exact ih1 _ _ _ _ _ _ _)
   | (with_reducible exact rule_may.mono _ _ _ _ _ _ _ _)
   | (with_reducible exact LeO.refl _)
   | (with_reducible exact LeO.none _)
   | (with_reducible refine LeO.ite ?_ ?_)
   | (with_reducible refine LeO.bind ?_ (fun _ => ?_))
   | exact ih0 _ _ _
   | exact ih1 _ _ _ _ _ _ _
   | exact rule_may.mono _ _ _ _ _ _ _ _
   | exact LeO.none _
   | refine LeO.ite ?_ ?_
   | refine LeO.bind ?_ (fun _ => ?_)
set_option maxHeartbeats 8000000 in
set_option maxRecDepth 100000 in
theorem rule_Check.calls (k : Nat) (A0 : Option Addr) (c0 : Nat) (l0 : List (S53)) (r1 : Int) (r2 : Int) (w : World) (hr0 : Kd.C k53 w A0 l0.length l0) (hc0 : l0.length ≤ c0) (h : rule_Check.f k l0 = some (r1, r2)) :
  Calls Tryd.prog 13 #[.slice A0 l0.length c0] w fun e w' => e = .returned (.tuple #[.int .i64 r1, .int .i64 r2]) ∧ Below w.heap.size w w' := by
 have hu53 := Tryd.underlying53
 have hu50 := Tryd.underlying50
 have HR0 := Aside0.mk hr0
 have HC0 := Aside0.mk hc0
 clear hr0 hc0
 have HB := Aside0.mk (Below.refl w.heap.size w)
 have H : (if (l0.length : Int) > 32 then (some (0, 3)) else (rule_Check.l0 k l0 (l0.length : Int) 0)) = some (r1, r2) := h
 clear h
 by_cases c2 : (l0.length : Int) > 32
 ·rw [if_pos c2] at H
  have c2b0 : decide (32 < (l0.length : Int)) = true := decide_eq_true c2
  have c2b1 : decide (32 < l0.length) = true := decide_eq_true (by omega)
  clear c2
  simp only [Option.some.injEq, Prod.mk.injEq] at H
  obtain ⟨rfl, rfl⟩ := H
  go_enter Tryd.func13, Tryd.ntmps13
  go_wp2
  go_ret2
  exact ⟨ret_now, b_now⟩
 ·rw [if_neg c2] at H
  have c2b0 : decide (32 < (l0.length : Int)) = false := decide_eq_false c2
  have c2b1 : decide (32 < l0.length) = false := decide_eq_false (by omega)
  clear c2
  have H' := Aside0.mk H
  clear H
  go_enter Tryd.func13, Tryd.ntmps13
  go_wp2
  go_loopg [13] k (fun kq v13 w' => ∃ (x13_1 : Int), v13 = .int .i64 x13_1 ∧ Aside0 (rule_Check.l0 kq l0 (l0.length : Int) x13_1 = some (r1, r2)) ∧ Aside0 (kq ≤ k) ∧ Aside0 (Below w.heap.size w w'))
  case atStart => exact ⟨(0), eq_now, H', ⟨Nat.le_refl _⟩, ⟨b_now⟩⟩
  case round =>
   clear H'
   try clear c1
   try clear c2
   try clear c2b0
   try clear c2b1
   try clear p2
   obtain ⟨x13_1, rfl, HA, HK1, HB⟩ := hrel
   cases gk with
   | zero => exact absurd HA.out (by simp [rule_Check.l0])
   | succ k1 =>
    have H := HA.out
    clear HA
    simp only [rule_Check.l0] at H
    by_cases c3 : x13_1 < (l0.length : Int)
    ·rw [if_pos c3] at H
     have c3b0 : decide (x13_1 < (l0.length : Int)) = true := decide_eq_true c3
     clear c3
     by_cases c4 : 0 ≤ x13_1
     ·rw [if_pos c4] at H
      have c4b0 : decide (0 ≤ x13_1) = true := decide_eq_true c4
      clear c4
      by_cases c5 : x13_1 < (l0.length : Int)
      ·rw [if_pos c5] at H
       have c5b0 : decide (x13_1 < (l0.length : Int)) = true := decide_eq_true c5
       clear c5
       by_cases c6 : (((rd_T53 l0 x13_1).f0).length : Int) > 8
       ·rw [if_pos c6] at H
        have c6b0 : decide (8 < (((rd_T53 l0 x13_1).f0).length : Int)) = true := decide_eq_true c6
        have c6b1 : decide (8 < ((rd_T53 l0 x13_1).f0).length) = true := decide_eq_true (by omega)
        clear c6
        simp only [Option.some.injEq, Prod.mk.injEq] at H
        obtain ⟨rfl, rfl⟩ := H
        have p105 : 0 ≤ (x13_1 : Int) := of_decide_eq_true (by first | (with_reducible assumption) | assumption)
        have q105 : x13_1 < (l0.length : Int) := of_decide_eq_true (by first | (with_reducible assumption) | assumption)
        obtain ⟨ad105, A105_0, c105_0, e105, hx105_0, hx105_1, hl105_0, hi105_0⟩ := at_T53 HR0.out x13_1 p105 q105
        cases e105
        replace hx105_0 := (HB.out.cell (World.block_lt_of_cell? w _ hx105_0)).trans hx105_0
        replace hx105_1 := (HB.out.cell (World.block_lt_of_cell? w _ hx105_1)).trans hx105_1
        have HR105_0 := Aside0.mk hi105_0
        have HC105_0 := Aside0.mk hl105_0
        clear hi105_0 hl105_0
        replace p105 := eq_true p105
        replace q105 := eq_true q105
        go_wp2_with (first | ((with_reducible refine gate_dst (N := 5) rfl ?_); refine sh_box 5 #[.slice none 0 0, .int .u32 0] 53 ?_; intro gb106 hg w7 hbox hb; have GE106 := sh_z (w := w) hg; replace HB := sh_b (w := w) hb; have BK106 := Aside0.mk (hbox); clear hb hbox hg; have hcz8 := blk_all2 BK106.out))
        go_ret2
        exact ⟨ret_now, b_now⟩
       ·rw [if_neg c6] at H
        have c6b0 : decide (8 < (((rd_T53 l0 x13_1).f0).length : Int)) = false := decide_eq_false c6
        have c6b1 : decide (8 < ((rd_T53 l0 x13_1).f0).length) = false := decide_eq_false (by omega)
        clear c6
        have H' := Aside0.mk H
        clear H
        have p105 : 0 ≤ (x13_1 : Int) := of_decide_eq_true (by first | (with_reducible assumption) | assumption)
        have q105 : x13_1 < (l0.length : Int) := of_decide_eq_true (by first | (with_reducible assumption) | assumption)
        obtain ⟨ad105, A105_0, c105_0, e105, hx105_0, hx105_1, hl105_0, hi105_0⟩ := at_T53 HR0.out x13_1 p105 q105
        cases e105
        replace hx105_0 := (HB.out.cell (World.block_lt_of_cell? w _ hx105_0)).trans hx105_0
        replace hx105_1 := (HB.out.cell (World.block_lt_of_cell? w _ hx105_1)).trans hx105_1
        have HR105_0 := Aside0.mk hi105_0
        have HC105_0 := Aside0.mk hl105_0
        clear hi105_0 hl105_0
        replace p105 := eq_true p105
        replace q105 := eq_true q105
        go_wp2_with (first | ((with_reducible refine gate_dst (N := 5) rfl ?_); refine sh_box 5 #[.slice none 0 0, .int .u32 0] 53 ?_; intro gb106 hg w9 hbox hb; have GE106 := sh_z (w := w) hg; replace HB := sh_b (w := w) hb; have BK106 := Aside0.mk (hbox); clear hb hbox hg; have hcz10 := blk_all2 BK106.out))
        go_loopg [26] k1 (fun kq v26 w' => ∃ (x26_2 : Int), v26 = .int .i64 x26_2 ∧ Aside0 (rule_Check.l1 kq x13_1 l0 (l0.length : Int) x13_1 ((rd_T53 l0 x13_1).f0) (((rd_T53 l0 x13_1).f0).length : Int) x26_2 = some (r1, r2)) ∧ Aside0 (kq ≤ k1) ∧ Aside0 (w'.heap[gb106]? = some (.cells #[(.slice A105_0 ((rd_T53 l0 x13_1).f0).length c105_0), .int .u32 ((rd_T53 l0 x13_1).f1)] 53 (0, 0))) ∧ Aside0 (Below w.heap.size w w'))
        case atStart => exact ⟨(0), eq_now, H', ⟨Nat.le_refl _⟩, ⟨bk_now⟩, ⟨b_now⟩⟩
        case round =>
         clear H'
         try clear c1
         try clear p1
         try clear q1
         try clear hx1
         try clear c2
         try clear c2b0
         try clear c2b1
         try clear p2
         try clear c3
         try clear c3b0
         try clear c4
         try clear c4b0
         try clear c5
         try clear c5b0
         try clear c6
         try clear c6b0
         try clear c6b1
         try clear c10
         try clear p10
         try clear q10
         try clear hx10
         try clear hcz10
         try clear hcz8
         try clear hx105_0
         try clear hx105_1
         try clear p105
         try clear p2
         try clear q105
         obtain ⟨x26_2, rfl, HA, HK2, BK106, HB⟩ := hrel
         cases gk with
         | zero => exact absurd HA.out (by simp [rule_Check.l1])
         | succ k2 =>
          have H := HA.out
          clear HA
          simp only [rule_Check.l1] at H
          by_cases c11 : x26_2 < (((rd_T53 l0 x13_1).f0).length : Int)
          ·rw [if_pos c11] at H
           have c11b0 : decide (x26_2 < (((rd_T53 l0 x13_1).f0).length : Int)) = true := decide_eq_true c11
           clear c11
           by_cases c12 : 0 ≤ x26_2
           ·rw [if_pos c12] at H
            have c12b0 : decide (0 ≤ x26_2) = true := decide_eq_true c12
            clear c12
            by_cases c13 : x26_2 < (((rd_T53 l0 x13_1).f0).length : Int)
            ·rw [if_pos c13] at H
             have c13b0 : decide (x26_2 < (((rd_T53 l0 x13_1).f0).length : Int)) = true := decide_eq_true c13
             clear c13
             replace H := Option.bind_eq_some_iff.mp H; obtain ⟨t109, A140, H⟩ := H; try dsimp only at H
             have A14 := Aside0.mk A140
             clear A140
             by_cases c15 : t109 = true
             ·subst c15
              replace H := sh_t H
              have H' := Aside0.mk H
              clear H
              have p107 : 0 ≤ (x26_2 : Int) := of_decide_eq_true (by first | (with_reducible assumption) | assumption)
              have q107 : x26_2 < (((rd_T53 l0 x13_1).f0).length : Int) := of_decide_eq_true (by first | (with_reducible assumption) | assumption)
              obtain ⟨ad107, e107, hx107_0, hx107_1, hx107_2, hx107_3, hx107_4, hx107_5, hx107_6⟩ := at_T50 HR105_0.out x26_2 p107 q107
              cases e107
              replace hx107_0 := (HB.out.cell (World.block_lt_of_cell? w _ hx107_0)).trans hx107_0
              replace hx107_1 := (HB.out.cell (World.block_lt_of_cell? w _ hx107_1)).trans hx107_1
              replace hx107_2 := (HB.out.cell (World.block_lt_of_cell? w _ hx107_2)).trans hx107_2
              replace hx107_3 := (HB.out.cell (World.block_lt_of_cell? w _ hx107_3)).trans hx107_3
              replace hx107_4 := (HB.out.cell (World.block_lt_of_cell? w _ hx107_4)).trans hx107_4
              replace hx107_5 := (HB.out.cell (World.block_lt_of_cell? w _ hx107_5)).trans hx107_5
              replace hx107_6 := (HB.out.cell (World.block_lt_of_cell? w _ hx107_6)).trans hx107_6
              replace p107 := eq_true p107
              replace q107 := eq_true q107
              go_wp2_with (first | ((with_reducible refine gate_dst (N := 7) rfl ?_); refine sh_box 7 #[.bool false, .int .i64 0, .int .i64 0, .int .i64 0, .int .u64 0, .int .u64 0, .int .u64 0] 50 ?_; intro gb108 hg w16 hbox hb; have GE108 := sh_z (w := w) hg; have NB106_108 := sh_n BK106 hg; have NB108_106 := sh_s NB106_108; replace BK106 := sh_k BK106 hb; replace HB := sh_b (w := w) hb; have BK108 := Aside0.mk (hbox); clear hb hbox hg; have hnb17 := NB108_106.out; have hnc17 := NB106_108.out; have hcz18 := blk_all7 BK108.out) | ((with_reducible refine gate_callee (f := 28) rfl ?_); refine sh_call (some 31) Tryd.func28 #[.agg #[.bool ((rd_T50 ((rd_T53 l0 x13_1).f0) x26_2).f0), .int .i64 ((rd_T50 ((rd_T53 l0 x13_1).f0) x26_2).f1), .int .i64 ((rd_T50 ((rd_T53 l0 x13_1).f0) x26_2).f2), .int .i64 ((rd_T50 ((rd_T53 l0 x13_1).f0) x26_2).f3), .int .u64 ((rd_T50 ((rd_T53 l0 x13_1).f0) x26_2).f4), .int .u64 ((rd_T50 ((rd_T53 l0 x13_1).f0) x26_2).f5), .int .u64 ((rd_T50 ((rd_T53 l0 x13_1).f0) x26_2).f6)]] ?_; (with_reducible refine (rule_may.calls k2 ((rd_T50 ((rd_T53 l0 x13_1).f0) x26_2).f0) ((rd_T50 ((rd_T53 l0 x13_1).f0) x26_2).f1) ((rd_T50 ((rd_T53 l0 x13_1).f0) x26_2).f2) ((rd_T50 ((rd_T53 l0 x13_1).f0) x26_2).f3) ((rd_T50 ((rd_T53 l0 x13_1).f0) x26_2).f4) ((rd_T50 ((rd_T53 l0 x13_1).f0) x26_2).f5) ((rd_T50 ((rd_T53 l0 x13_1).f0) x26_2).f6) true _ A14.out).mono ?_); rintro e w19 ⟨rfl, hb⟩; refine ⟨_, rfl, ?_⟩; replace BK106 := sh_kp (g := gb106) (t := 53) #[.slice (some ad107) ((rd_T53 l0 x13_1).f0).length c105_0, .int .u32 ((rd_T53 l0 x13_1).f1)] hb; replace BK108 := sh_kp (g := gb108) (t := 50) #[.bool ((rd_T50 ((rd_T53 l0 x13_1).f0) x26_2).f0), .int .i64 ((rd_T50 ((rd_T53 l0 x13_1).f0) x26_2).f1), .int .i64 ((rd_T50 ((rd_T53 l0 x13_1).f0) x26_2).f2), .int .i64 ((rd_T50 ((rd_T53 l0 x13_1).f0) x26_2).f3), .int .u64 ((rd_T50 ((rd_T53 l0 x13_1).f0) x26_2).f4), .int .u64 ((rd_T50 ((rd_T53 l0 x13_1).f0) x26_2).f5), .int .u64 ((rd_T50 ((rd_T53 l0 x13_1).f0) x26_2).f6)] hb; replace HB := sh_b (w := w) hb; (try clear hb); (try clear hb2); (try clear hk); (try clear hi)))
              go_roundg k2
              case measure => have := HK1.out; have := HK2.out; omega
              case rel => exact ⟨(wrap64 (x26_2 + 1)), eq_now, H', ⟨by have := HK1.out; have := HK2.out; omega⟩, ⟨bk_now⟩, ⟨b_now⟩⟩
             ·replace c15 := Bool.eq_false_iff.mpr c15
              subst c15
              replace H := sh_f H
              simp only [Option.some.injEq, Prod.mk.injEq] at H
              obtain ⟨rfl, rfl⟩ := H
              have p107 : 0 ≤ (x26_2 : Int) := of_decide_eq_true (by first | (with_reducible assumption) | assumption)
              have q107 : x26_2 < (((rd_T53 l0 x13_1).f0).length : Int) := of_decide_eq_true (by first | (with_reducible assumption) | assumption)
              obtain ⟨ad107, e107, hx107_0, hx107_1, hx107_2, hx107_3, hx107_4, hx107_5, hx107_6⟩ := at_T50 HR105_0.out x26_2 p107 q107
              cases e107
              replace hx107_0 := (HB.out.cell (World.block_lt_of_cell? w _ hx107_0)).trans hx107_0
              replace hx107_1 := (HB.out.cell (World.block_lt_of_cell? w _ hx107_1)).trans hx107_1
              replace hx107_2 := (HB.out.cell (World.block_lt_of_cell? w _ hx107_2)).trans hx107_2
              replace hx107_3 := (HB.out.cell (World.block_lt_of_cell? w _ hx107_3)).trans hx107_3
              replace hx107_4 := (HB.out.cell (World.block_lt_of_cell? w _ hx107_4)).trans hx107_4
              replace hx107_5 := (HB.out.cell (World.block_lt_of_cell? w _ hx107_5)).trans hx107_5
              replace hx107_6 := (HB.out.cell (World.block_lt_of_cell? w _ hx107_6)).trans hx107_6
              replace p107 := eq_true p107
              replace q107 := eq_true q107
              go_wp2_with (first | ((with_reducible refine gate_dst (N := 7) rfl ?_); refine sh_box 7 #[.bool false, .int .i64 0, .int .i64 0, .int .i64 0, .int .u64 0, .int .u64 0, .int .u64 0] 50 ?_; intro gb108 hg w20 hbox hb; have GE108 := sh_z (w := w) hg; have NB106_108 := sh_n BK106 hg; have NB108_106 := sh_s NB106_108; replace BK106 := sh_k BK106 hb; replace HB := sh_b (w := w) hb; have BK108 := Aside0.mk (hbox); clear hb hbox hg; have hnb21 := NB108_106.out; have hnc21 := NB106_108.out; have hcz22 := blk_all7 BK108.out) | ((with_reducible refine gate_callee (f := 28) rfl ?_); refine sh_call (some 31) Tryd.func28 #[.agg #[.bool ((rd_T50 ((rd_T53 l0 x13_1).f0) x26_2).f0), .int .i64 ((rd_T50 ((rd_T53 l0 x13_1).f0) x26_2).f1), .int .i64 ((rd_T50 ((rd_T53 l0 x13_1).f0) x26_2).f2), .int .i64 ((rd_T50 ((rd_T53 l0 x13_1).f0) x26_2).f3), .int .u64 ((rd_T50 ((rd_T53 l0 x13_1).f0) x26_2).f4), .int .u64 ((rd_T50 ((rd_T53 l0 x13_1).f0) x26_2).f5), .int .u64 ((rd_T50 ((rd_T53 l0 x13_1).f0) x26_2).f6)]] ?_; (with_reducible refine (rule_may.calls k2 ((rd_T50 ((rd_T53 l0 x13_1).f0) x26_2).f0) ((rd_T50 ((rd_T53 l0 x13_1).f0) x26_2).f1) ((rd_T50 ((rd_T53 l0 x13_1).f0) x26_2).f2) ((rd_T50 ((rd_T53 l0 x13_1).f0) x26_2).f3) ((rd_T50 ((rd_T53 l0 x13_1).f0) x26_2).f4) ((rd_T50 ((rd_T53 l0 x13_1).f0) x26_2).f5) ((rd_T50 ((rd_T53 l0 x13_1).f0) x26_2).f6) false _ A14.out).mono ?_); rintro e w23 ⟨rfl, hb⟩; refine ⟨_, rfl, ?_⟩; replace BK106 := sh_kp (g := gb106) (t := 53) #[.slice (some ad107) ((rd_T53 l0 x13_1).f0).length c105_0, .int .u32 ((rd_T53 l0 x13_1).f1)] hb; replace BK108 := sh_kp (g := gb108) (t := 50) #[.bool ((rd_T50 ((rd_T53 l0 x13_1).f0) x26_2).f0), .int .i64 ((rd_T50 ((rd_T53 l0 x13_1).f0) x26_2).f1), .int .i64 ((rd_T50 ((rd_T53 l0 x13_1).f0) x26_2).f2), .int .i64 ((rd_T50 ((rd_T53 l0 x13_1).f0) x26_2).f3), .int .u64 ((rd_T50 ((rd_T53 l0 x13_1).f0) x26_2).f4), .int .u64 ((rd_T50 ((rd_T53 l0 x13_1).f0) x26_2).f5), .int .u64 ((rd_T50 ((rd_T53 l0 x13_1).f0) x26_2).f6)] hb; replace HB := sh_b (w := w) hb; (try clear hb); (try clear hb2); (try clear hk); (try clear hi)))
              go_ret2
              exact ⟨ret_now, b_now⟩
            ·rw [if_neg c13] at H
             exact absurd H (by simp)
           ·rw [if_neg c12] at H
            exact absurd H (by simp)
          ·rw [if_neg c11] at H
           have c11b0 : decide (x26_2 < (((rd_T53 l0 x13_1).f0).length : Int)) = false := decide_eq_false c11
           clear c11
           have H' := Aside0.mk H
           clear H
           go_wp2
           go_roundg k2
           case measure => have := HK1.out; have := HK2.out; omega
           case rel => exact ⟨(wrap64 (x13_1 + 1)), eq_now, H', ⟨by have := HK1.out; have := HK2.out; omega⟩, ⟨b_now⟩⟩
      ·rw [if_neg c5] at H
       exact absurd H (by simp)
     ·rw [if_neg c4] at H
      exact absurd H (by simp)
    ·rw [if_neg c3] at H
     have c3b0 : decide (x13_1 < (l0.length : Int)) = false := decide_eq_false c3
     clear c3
     simp only [Option.some.injEq, Prod.mk.injEq] at H
     obtain ⟨rfl, rfl⟩ := H
     go_wp2
     go_ret2
     exact ⟨ret_now, b_now⟩

-- NOT PRINTED: function 62 (abi_NoEscape)

-- NOT PRINTED: function 44 (strings_Builder_copyCheck)

-- NOT PRINTED: function 30 (strings_Builder_WriteString)

end Go.Proofs.YtighficpbplkhaaDoor.P
