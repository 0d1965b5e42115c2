/- Made by this session's driver over the kit's printer: for each Go function a Lean function with the same answers, and a proof that the Go call comes to these answers; no conditions but the ones each theorem names. -/
import Derived.Test.YtighficpbplkhaaDoorPx0
import Derived.Test.YtighficpbplkhaaDoorPx23
namespace Go.Proofs.YtighficpbplkhaaDoor.P
open Go.RowKit Go.Proofs.YtighficpbplkhaaDoorW.PrintWords Go.Proofs.YtighficpbplkhaaDoorW.PrintLast Go.Proofs.YtighficpbplkhaaDoorW.PrintMore
attribute [local go_sem] max2_int min2_int max_two min_two max_three min_three max_four min_four   -- for this text's walks alone
set_option linter.unusedVariables false
set_option linter.unusedSimpArgs false

/-! ### stockaderef18_Check: function 14 -/
mutual
def stockaderef18_Check.l0 : Nat → List (S46) → Int → Option (Int × Int)
 | 0, _, _ => none
 | k + 1, x0, x4 => if x4 < (x0.length : Int) then (if 0 ≤ x4 then (if (((rd_T46 x0 x4).f0).length : Int) > 8 then (some (x4, 3)) else (stockaderef18_Check.l1 k x0 x4 0)) else (none)) else (some (0, 0))
def stockaderef18_Check.l1 : Nat → List (S46) → Int → Int → Option (Int × Int)
 | 0, _, _, _ => none
 | k + 1, x0, x4, x5 => if 0 ≤ x4 then (if x4 < (x0.length : Int) then (if x5 < (((rd_T46 x0 x4).f0).length : Int) then (if 0 ≤ x5 then ((stockaderef18_May.f k ((rd_T55 ((rd_T46 x0 x4).f0) x5).f0) ((rd_T55 ((rd_T46 x0 x4).f0) x5).f1) ((rd_T55 ((rd_T46 x0 x4).f0) x5).f2) ((rd_T55 ((rd_T46 x0 x4).f0) x5).f3) ((rd_T55 ((rd_T46 x0 x4).f0) x5).f4) ((rd_T55 ((rd_T46 x0 x4).f0) x5).f5) ((rd_T55 ((rd_T46 x0 x4).f0) x5).f6)).bind fun t312 => (if t312 = true then (stockaderef18_Check.l1 k x0 x4 (wrap64 (x5 + 1))) else (some (x4, 1)))) else (none)) else (stockaderef18_Check.l0 k x0 (wrap64 (x4 + 1)))) else (none)) else (none)
end
def stockaderef18_Check.f (k : Nat) (l0 : List (S46)) : Option (Int × Int) := if (l0.length : Int) > 32 then (some (0, 3)) else (stockaderef18_Check.l0 k l0 0)
theorem stockaderef18_Check.mono_l : ∀ k, (∀ y0 y1, LeO (stockaderef18_Check.l0 k y0 y1) (stockaderef18_Check.l0 (k + 1) y0 y1)) ∧ (∀ y0 y1 y2, LeO (stockaderef18_Check.l1 k y0 y1 y2) (stockaderef18_Check.l1 (k + 1) y0 y1 y2))
 | 0 => ⟨fun _ _ r h => by simp [stockaderef18_Check.l0] at h, fun _ _ _ r h => by simp [stockaderef18_Check.l1] at h⟩
 | k + 1 => by
  obtain ⟨ih0, ih1⟩ := stockaderef18_Check.mono_l k
  refine ⟨?_, ?_⟩
  ·intro y0 y1
   unfold stockaderef18_Check.l0
   repeat' first
   | (with_reducible exact ih0 _ _)
   | (with_reducible exact ih1 _ _ _)
   | (with_reducible exact stockaderef18_May.mono _ _ _ _ _ _ _ _)
   | (with_reducible exact LeO.refl _)
   | (with_reducible exact LeO.none _)
   | (with_reducible refine LeO.ite ?_ ?_)
   | (with_reducible refine LeO.bind ?_ (fun _ => ?_))
   | exact ih0 _ _
   | exact ih1 _ _ _
   | exact stockaderef18_May.mono _ _ _ _ _ _ _ _
   | exact LeO.none _
   | refine LeO.ite ?_ ?_
   | refine LeO.bind ?_ (fun _ => ?_)
  ·intro y0 y1 y2
   unfold stockaderef18_Check.l1
   repeat' first
   | (with_reducible exact ih0 _ _)
   | (with_reducible exact ih1 _ _ _)
   | (with_reducible exact stockaderef18_May.mono _ _ _ _ _ _ _ _)
   | (with_reducible exact LeO.refl _)
   | (with_reducible exact LeO.none _)
   | (with_reducible refine LeO.ite ?_ ?_)
   | (with_reducible refine LeO.bind ?_ (fun _ => ?_))
   | exact ih0 _ _
   | exact ih1 _ _ _
   | exact stockaderef18_May.mono _ _ _ _ _ _ _ _
   | exact LeO.none _
   | refine LeO.ite ?_ ?_
   | refine LeO.bind ?_ (fun _ => ?_)
theorem stockaderef18_Check.mono : ∀ a0 k, LeO (stockaderef18_Check.f k a0) (stockaderef18_Check.f (k + 1) a0) := by
 intro a0 k
 obtain ⟨ih0, ih1⟩ := stockaderef18_Check.mono_l k
 unfold stockaderef18_Check.f
 repeat' first
   | (with_reducible exact ih0 _ _)
   | (with_reducible exact ih1 _ _ _)
   | (with_reducible exact stockaderef18_May.mono _ _ _ _ _ _ _ _)
   | (with_reducible exact LeO.refl _)
   | (with_reducible exact LeO.none _)
   | (with_reducible refine LeO.ite ?_ ?_)
   | (with_reducible refine LeO.bind ?_ (fun _ => ?_))
   | exact ih0 _ _
   | exact ih1 _ _ _
   | exact stockaderef18_May.mono _ _ _ _ _ _ _ _
   | exact LeO.none _
   | refine LeO.ite ?_ ?_
   | refine LeO.bind ?_ (fun _ => ?_)
set_option maxHeartbeats 8000000 in
set_option maxRecDepth 100000 in
theorem stockaderef18_Check.calls (k : Nat) (A0 : Option Addr) (c0 : Nat) (l0 : List (S46)) (r1 : Int) (r2 : Int) (w : World) (hr0 : Kd.C k46 w A0 l0.length l0) (hc0 : l0.length ≤ c0) (h : stockaderef18_Check.f k l0 = some (r1, r2)) :
  Calls Tryd.prog 14 #[.slice A0 l0.length c0] w fun e w' => e = .returned (.tuple #[.int .i64 r1, .int .i64 r2]) ∧ Below w.heap.size w w' := by
 have hu55 := Tryd.underlying55
 have HR0 := Aside0.mk hr0
 have HC0 := Aside0.mk hc0
 clear hr0 hc0
 have HB := Aside0.mk (Below.refl w.heap.size w)
 have H : (if (l0.length : Int) > 32 then (some (0, 3)) else (stockaderef18_Check.l0 k l0 0)) = some (r1, r2) := h
 clear h
 by_cases c2 : (l0.length : Int) > 32
 ·rw [if_pos c2] at H
  have c2b0 : decide (32 < (l0.length : Int)) = true := decide_eq_true c2
  have c2b1 : decide (32 < l0.length) = true := decide_eq_true (by omega)
  clear c2
  simp only [Option.some.injEq, Prod.mk.injEq] at H
  obtain ⟨rfl, rfl⟩ := H
  go_enter Tryd.func14, Tryd.ntmps14
  go_wp2
  go_ret2
  exact ⟨ret_now, b_now⟩
 ·rw [if_neg c2] at H
  have c2b0 : decide (32 < (l0.length : Int)) = false := decide_eq_false c2
  have c2b1 : decide (32 < l0.length) = false := decide_eq_false (by omega)
  clear c2
  have H' := Aside0.mk H
  clear H
  go_enter Tryd.func14, Tryd.ntmps14
  go_wp2
  go_loopg [4] k (fun kq v4 w' => ∃ (x4_1 : Int), v4 = .int .i64 x4_1 ∧ Aside0 (stockaderef18_Check.l0 kq l0 x4_1 = some (r1, r2)) ∧ Aside0 (kq ≤ k) ∧ Aside0 (Below w.heap.size w w'))
  case atStart => exact ⟨(0), eq_now, H', ⟨Nat.le_refl _⟩, ⟨b_now⟩⟩
  case round =>
   clear H'
   clear c2b0 c2b1
   obtain ⟨x4_1, rfl, HA, HK1, HB⟩ := hrel
   cases gk with
   | zero => exact absurd HA.out (by simp [stockaderef18_Check.l0])
   | succ k1 =>
    have H := HA.out
    clear HA
    simp only [stockaderef18_Check.l0] at H
    by_cases c3 : x4_1 < (l0.length : Int)
    ·rw [if_pos c3] at H
     have c3b0 : decide (x4_1 < (l0.length : Int)) = true := decide_eq_true c3
     clear c3
     by_cases c4 : 0 ≤ x4_1
     ·rw [if_pos c4] at H
      have c4b0 : decide (0 ≤ x4_1) = true := decide_eq_true c4
      clear c4
      by_cases c5 : (((rd_T46 l0 x4_1).f0).length : Int) > 8
      ·rw [if_pos c5] at H
       have c5b0 : decide (8 < (((rd_T46 l0 x4_1).f0).length : Int)) = true := decide_eq_true c5
       have c5b1 : decide (8 < ((rd_T46 l0 x4_1).f0).length) = true := decide_eq_true (by omega)
       clear c5
       simp only [Option.some.injEq, Prod.mk.injEq] at H
       obtain ⟨rfl, rfl⟩ := H
       have p308 : 0 ≤ (x4_1 : Int) := of_decide_eq_true (by first | (with_reducible assumption) | assumption)
       have q308 : x4_1 < (l0.length : Int) := of_decide_eq_true (by first | (with_reducible assumption) | assumption)
       obtain ⟨ad308, A308_0, c308_0, e308, hx308_0, hx308_1, hl308_0, hi308_0⟩ := at_T46 HR0.out x4_1 p308 q308
       cases e308
       replace hx308_0 := (HB.out.cell (World.block_lt_of_cell? w _ hx308_0)).trans hx308_0
       replace hx308_1 := (HB.out.cell (World.block_lt_of_cell? w _ hx308_1)).trans hx308_1
       have HR308_0 := Aside0.mk hi308_0
       have HC308_0 := Aside0.mk hl308_0
       clear hi308_0 hl308_0
       replace p308 := eq_true p308
       replace q308 := eq_true q308
       go_wp2
       go_ret2
       exact ⟨ret_now, b_now⟩
      ·rw [if_neg c5] at H
       have c5b0 : decide (8 < (((rd_T46 l0 x4_1).f0).length : Int)) = false := decide_eq_false c5
       have c5b1 : decide (8 < ((rd_T46 l0 x4_1).f0).length) = false := decide_eq_false (by omega)
       clear c5
       have H' := Aside0.mk H
       clear H
       have p308 : 0 ≤ (x4_1 : Int) := of_decide_eq_true (by first | (with_reducible assumption) | assumption)
       have q308 : x4_1 < (l0.length : Int) := of_decide_eq_true (by first | (with_reducible assumption) | assumption)
       obtain ⟨ad308, A308_0, c308_0, e308, hx308_0, hx308_1, hl308_0, hi308_0⟩ := at_T46 HR0.out x4_1 p308 q308
       cases e308
       replace hx308_0 := (HB.out.cell (World.block_lt_of_cell? w _ hx308_0)).trans hx308_0
       replace hx308_1 := (HB.out.cell (World.block_lt_of_cell? w _ hx308_1)).trans hx308_1
       have HR308_0 := Aside0.mk hi308_0
       have HC308_0 := Aside0.mk hl308_0
       clear hi308_0 hl308_0
       replace p308 := eq_true p308
       replace q308 := eq_true q308
       go_wp2
       go_loopg [5] k1 (fun kq v5 w' => ∃ (x5_2 : Int), v5 = .int .i64 x5_2 ∧ Aside0 (stockaderef18_Check.l1 kq l0 x4_1 x5_2 = some (r1, r2)) ∧ Aside0 (kq ≤ k1) ∧ Aside0 (Below w.heap.size w w'))
       case atStart => exact ⟨(0), eq_now, H', ⟨Nat.le_refl _⟩, ⟨b_now⟩⟩
       case round =>
        clear H'
        clear c3b0 c4b0 c5b0 c5b1 hx308_0 hx308_1 p308 q308
        obtain ⟨x5_2, rfl, HA, HK2, HB⟩ := hrel
        cases gk with
        | zero => exact absurd HA.out (by simp [stockaderef18_Check.l1])
        | succ k2 =>
         have H := HA.out
         clear HA
         simp only [stockaderef18_Check.l1] at H
         by_cases c6 : 0 ≤ x4_1
         ·rw [if_pos c6] at H
          have c6b0 : decide (0 ≤ x4_1) = true := decide_eq_true c6
          clear c6
          by_cases c7 : x4_1 < (l0.length : Int)
          ·rw [if_pos c7] at H
           have c7b0 : decide (x4_1 < (l0.length : Int)) = true := decide_eq_true c7
           clear c7
           by_cases c8 : x5_2 < (((rd_T46 l0 x4_1).f0).length : Int)
           ·rw [if_pos c8] at H
            have c8b0 : decide (x5_2 < (((rd_T46 l0 x4_1).f0).length : Int)) = true := decide_eq_true c8
            clear c8
            by_cases c9 : 0 ≤ x5_2
            ·rw [if_pos c9] at H
             have c9b0 : decide (0 ≤ x5_2) = true := decide_eq_true c9
             clear c9
             replace H := Option.bind_eq_some_iff.mp H; obtain ⟨t312, A100, H⟩ := H; try dsimp only at H
             have A10 := Aside0.mk A100
             clear A100
             by_cases c11 : t312 = true
             ·subst c11
              replace H := sh_t H
              have H' := Aside0.mk H
              clear H
              have p309 : 0 ≤ (x4_1 : Int) := of_decide_eq_true (by first | (with_reducible assumption) | assumption)
              have q309 : x4_1 < (l0.length : Int) := of_decide_eq_true (by first | (with_reducible assumption) | assumption)
              obtain ⟨ad309, A309_0, c309_0, e309, hx309_0, hx309_1, hl309_0, hi309_0⟩ := at_T46 HR0.out x4_1 p309 q309
              obtain rfl : ad308 = ad309 := (by injection e309)
              replace hx309_0 := (HB.out.cell (World.block_lt_of_cell? w _ hx309_0)).trans hx309_0
              replace hx309_1 := (HB.out.cell (World.block_lt_of_cell? w _ hx309_1)).trans hx309_1
              have HR309_0 := Aside0.mk hi309_0
              have HC309_0 := Aside0.mk hl309_0
              clear hi309_0 hl309_0
              replace p309 := eq_true p309
              replace q309 := eq_true q309
              have p310 : 0 ≤ (x4_1 : Int) := of_decide_eq_true (by first | (with_reducible assumption) | assumption)
              have q310 : x4_1 < (l0.length : Int) := of_decide_eq_true (by first | (with_reducible assumption) | assumption)
              obtain ⟨ad310, A310_0, c310_0, e310, hx310_0, hx310_1, hl310_0, hi310_0⟩ := at_T46 HR0.out x4_1 p310 q310
              obtain rfl : ad308 = ad310 := (by injection e310)
              replace hx310_0 := (HB.out.cell (World.block_lt_of_cell? w _ hx310_0)).trans hx310_0
              replace hx310_1 := (HB.out.cell (World.block_lt_of_cell? w _ hx310_1)).trans hx310_1
              have HR310_0 := Aside0.mk hi310_0
              have HC310_0 := Aside0.mk hl310_0
              clear hi310_0 hl310_0
              replace p310 := eq_true p310
              replace q310 := eq_true q310
              have ea_ := Option.some.inj (hx309_0.symm.trans hx310_0)
              injection ea_ with ea_ en_ ec_
              subst ea_
              subst ec_
              clear en_
              have p311 : 0 ≤ (x5_2 : Int) := of_decide_eq_true (by first | (with_reducible assumption) | assumption)
              have q311 : x5_2 < (((rd_T46 l0 x4_1).f0).length : Int) := of_decide_eq_true (by first | (with_reducible assumption) | assumption)
              obtain ⟨ad311, e311, hx311_0, hx311_1, hx311_2, hx311_3, hx311_4, hx311_5, hx311_6⟩ := at_T55 HR310_0.out x5_2 p311 q311
              cases e311
              replace hx311_0 := (HB.out.cell (World.block_lt_of_cell? w _ hx311_0)).trans hx311_0
              replace hx311_1 := (HB.out.cell (World.block_lt_of_cell? w _ hx311_1)).trans hx311_1
              replace hx311_2 := (HB.out.cell (World.block_lt_of_cell? w _ hx311_2)).trans hx311_2
              replace hx311_3 := (HB.out.cell (World.block_lt_of_cell? w _ hx311_3)).trans hx311_3
              replace hx311_4 := (HB.out.cell (World.block_lt_of_cell? w _ hx311_4)).trans hx311_4
              replace hx311_5 := (HB.out.cell (World.block_lt_of_cell? w _ hx311_5)).trans hx311_5
              replace hx311_6 := (HB.out.cell (World.block_lt_of_cell? w _ hx311_6)).trans hx311_6
              replace p311 := eq_true p311
              replace q311 := eq_true q311
              go_wp2_with (first | ((with_reducible refine gate_callee (f := 29) rfl ?_); refine sh_call (some 41) Tryd.func29 #[.agg #[.bool ((rd_T55 ((rd_T46 l0 x4_1).f0) x5_2).f0), .int .i64 ((rd_T55 ((rd_T46 l0 x4_1).f0) x5_2).f1), .int .i64 ((rd_T55 ((rd_T46 l0 x4_1).f0) x5_2).f2), .int .i64 ((rd_T55 ((rd_T46 l0 x4_1).f0) x5_2).f3), .int .u64 ((rd_T55 ((rd_T46 l0 x4_1).f0) x5_2).f4), .int .u64 ((rd_T55 ((rd_T46 l0 x4_1).f0) x5_2).f5), .int .u64 ((rd_T55 ((rd_T46 l0 x4_1).f0) x5_2).f6)]] ?_; (with_reducible refine (stockaderef18_May.calls k2 ((rd_T55 ((rd_T46 l0 x4_1).f0) x5_2).f0) ((rd_T55 ((rd_T46 l0 x4_1).f0) x5_2).f1) ((rd_T55 ((rd_T46 l0 x4_1).f0) x5_2).f2) ((rd_T55 ((rd_T46 l0 x4_1).f0) x5_2).f3) ((rd_T55 ((rd_T46 l0 x4_1).f0) x5_2).f4) ((rd_T55 ((rd_T46 l0 x4_1).f0) x5_2).f5) ((rd_T55 ((rd_T46 l0 x4_1).f0) x5_2).f6) true _ A10.out).mono ?_); rintro e w12 ⟨rfl, hb⟩; refine ⟨_, rfl, ?_⟩; replace HB := sh_b (w := w) hb; (try clear hb); (try clear hb2); (try clear hk); (try clear hi)))
              go_roundg k2
              case measure => have := HK1.out; have := HK2.out; omega
              case rel => exact ⟨(wrap64 (x5_2 + 1)), eq_now, H', ⟨by have := HK1.out; have := HK2.out; omega⟩, ⟨b_now⟩⟩
             ·replace c11 := Bool.eq_false_iff.mpr c11
              subst c11
              replace H := sh_f H
              simp only [Option.some.injEq, Prod.mk.injEq] at H
              obtain ⟨rfl, rfl⟩ := H
              have p309 : 0 ≤ (x4_1 : Int) := of_decide_eq_true (by first | (with_reducible assumption) | assumption)
              have q309 : x4_1 < (l0.length : Int) := of_decide_eq_true (by first | (with_reducible assumption) | assumption)
              obtain ⟨ad309, A309_0, c309_0, e309, hx309_0, hx309_1, hl309_0, hi309_0⟩ := at_T46 HR0.out x4_1 p309 q309
              obtain rfl : ad308 = ad309 := (by injection e309)
              replace hx309_0 := (HB.out.cell (World.block_lt_of_cell? w _ hx309_0)).trans hx309_0
              replace hx309_1 := (HB.out.cell (World.block_lt_of_cell? w _ hx309_1)).trans hx309_1
              have HR309_0 := Aside0.mk hi309_0
              have HC309_0 := Aside0.mk hl309_0
              clear hi309_0 hl309_0
              replace p309 := eq_true p309
              replace q309 := eq_true q309
              have p310 : 0 ≤ (x4_1 : Int) := of_decide_eq_true (by first | (with_reducible assumption) | assumption)
              have q310 : x4_1 < (l0.length : Int) := of_decide_eq_true (by first | (with_reducible assumption) | assumption)
              obtain ⟨ad310, A310_0, c310_0, e310, hx310_0, hx310_1, hl310_0, hi310_0⟩ := at_T46 HR0.out x4_1 p310 q310
              obtain rfl : ad308 = ad310 := (by injection e310)
              replace hx310_0 := (HB.out.cell (World.block_lt_of_cell? w _ hx310_0)).trans hx310_0
              replace hx310_1 := (HB.out.cell (World.block_lt_of_cell? w _ hx310_1)).trans hx310_1
              have HR310_0 := Aside0.mk hi310_0
              have HC310_0 := Aside0.mk hl310_0
              clear hi310_0 hl310_0
              replace p310 := eq_true p310
              replace q310 := eq_true q310
              have ea_ := Option.some.inj (hx309_0.symm.trans hx310_0)
              injection ea_ with ea_ en_ ec_
              subst ea_
              subst ec_
              clear en_
              have p311 : 0 ≤ (x5_2 : Int) := of_decide_eq_true (by first | (with_reducible assumption) | assumption)
              have q311 : x5_2 < (((rd_T46 l0 x4_1).f0).length : Int) := of_decide_eq_true (by first | (with_reducible assumption) | assumption)
              obtain ⟨ad311, e311, hx311_0, hx311_1, hx311_2, hx311_3, hx311_4, hx311_5, hx311_6⟩ := at_T55 HR310_0.out x5_2 p311 q311
              cases e311
              replace hx311_0 := (HB.out.cell (World.block_lt_of_cell? w _ hx311_0)).trans hx311_0
              replace hx311_1 := (HB.out.cell (World.block_lt_of_cell? w _ hx311_1)).trans hx311_1
              replace hx311_2 := (HB.out.cell (World.block_lt_of_cell? w _ hx311_2)).trans hx311_2
              replace hx311_3 := (HB.out.cell (World.block_lt_of_cell? w _ hx311_3)).trans hx311_3
              replace hx311_4 := (HB.out.cell (World.block_lt_of_cell? w _ hx311_4)).trans hx311_4
              replace hx311_5 := (HB.out.cell (World.block_lt_of_cell? w _ hx311_5)).trans hx311_5
              replace hx311_6 := (HB.out.cell (World.block_lt_of_cell? w _ hx311_6)).trans hx311_6
              replace p311 := eq_true p311
              replace q311 := eq_true q311
              go_wp2_with (first | ((with_reducible refine gate_callee (f := 29) rfl ?_); refine sh_call (some 41) Tryd.func29 #[.agg #[.bool ((rd_T55 ((rd_T46 l0 x4_1).f0) x5_2).f0), .int .i64 ((rd_T55 ((rd_T46 l0 x4_1).f0) x5_2).f1), .int .i64 ((rd_T55 ((rd_T46 l0 x4_1).f0) x5_2).f2), .int .i64 ((rd_T55 ((rd_T46 l0 x4_1).f0) x5_2).f3), .int .u64 ((rd_T55 ((rd_T46 l0 x4_1).f0) x5_2).f4), .int .u64 ((rd_T55 ((rd_T46 l0 x4_1).f0) x5_2).f5), .int .u64 ((rd_T55 ((rd_T46 l0 x4_1).f0) x5_2).f6)]] ?_; (with_reducible refine (stockaderef18_May.calls k2 ((rd_T55 ((rd_T46 l0 x4_1).f0) x5_2).f0) ((rd_T55 ((rd_T46 l0 x4_1).f0) x5_2).f1) ((rd_T55 ((rd_T46 l0 x4_1).f0) x5_2).f2) ((rd_T55 ((rd_T46 l0 x4_1).f0) x5_2).f3) ((rd_T55 ((rd_T46 l0 x4_1).f0) x5_2).f4) ((rd_T55 ((rd_T46 l0 x4_1).f0) x5_2).f5) ((rd_T55 ((rd_T46 l0 x4_1).f0) x5_2).f6) false _ A10.out).mono ?_); rintro e w13 ⟨rfl, hb⟩; refine ⟨_, rfl, ?_⟩; replace HB := sh_b (w := w) hb; (try clear hb); (try clear hb2); (try clear hk); (try clear hi)))
              go_ret2
              exact ⟨ret_now, b_now⟩
            ·rw [if_neg c9] at H
             exact absurd H (by simp)
           ·rw [if_neg c8] at H
            have c8b0 : decide (x5_2 < (((rd_T46 l0 x4_1).f0).length : Int)) = false := decide_eq_false c8
            clear c8
            have H' := Aside0.mk H
            clear H
            have p309 : 0 ≤ (x4_1 : Int) := of_decide_eq_true (by first | (with_reducible assumption) | assumption)
            have q309 : x4_1 < (l0.length : Int) := of_decide_eq_true (by first | (with_reducible assumption) | assumption)
            obtain ⟨ad309, A309_0, c309_0, e309, hx309_0, hx309_1, hl309_0, hi309_0⟩ := at_T46 HR0.out x4_1 p309 q309
            obtain rfl : ad308 = ad309 := (by injection e309)
            replace hx309_0 := (HB.out.cell (World.block_lt_of_cell? w _ hx309_0)).trans hx309_0
            replace hx309_1 := (HB.out.cell (World.block_lt_of_cell? w _ hx309_1)).trans hx309_1
            have HR309_0 := Aside0.mk hi309_0
            have HC309_0 := Aside0.mk hl309_0
            clear hi309_0 hl309_0
            replace p309 := eq_true p309
            replace q309 := eq_true q309
            go_wp2
            go_roundg k2
            case measure => have := HK1.out; have := HK2.out; omega
            case rel => exact ⟨(wrap64 (x4_1 + 1)), eq_now, H', ⟨by have := HK1.out; have := HK2.out; omega⟩, ⟨b_now⟩⟩
          ·rw [if_neg c7] at H
           exact absurd H (by simp)
         ·rw [if_neg c6] at H
          exact absurd H (by simp)
     ·rw [if_neg c4] at H
      exact absurd H (by simp)
    ·rw [if_neg c3] at H
     have c3b0 : decide (x4_1 < (l0.length : Int)) = false := decide_eq_false c3
     clear c3
     simp only [Option.some.injEq, Prod.mk.injEq] at H
     obtain ⟨rfl, rfl⟩ := H
     go_wp2
     go_ret2
     exact ⟨ret_now, b_now⟩

/-! ### stockaderef18_digits: function 48 -/
def stockaderef18_digits.l0 : Nat → Int → ByteArray → Option (ByteArray)
 | 0, _, _ => none
 | k + 1, x0, x3 => if x0 > 9 then ((some (([(IntKind.u64.wrap (48 + (Int.tmod x0 10))) % 256] : List Int) : List Int)).bind fun y313 => (if (strOfNums y313).size + x3.size ≤ 9223372036854775807 then (stockaderef18_digits.l0 k (IntKind.u64.wrap (Int.tdiv x0 10)) ((strOfNums y313) ++ x3)) else (none))) else ((some (([(IntKind.u64.wrap (48 + x0)) % 256] : List Int) : List Int)).bind fun y316 => (if (strOfNums y316).size + x3.size ≤ 9223372036854775807 then (some ((strOfNums y316) ++ x3)) else (none)))
def stockaderef18_digits.f (k : Nat) (a0 : Int) : Option (ByteArray) := stockaderef18_digits.l0 k a0 (⟨#[]⟩ : ByteArray)
theorem stockaderef18_digits.mono_l : ∀ k, (∀ y0 y1, LeO (stockaderef18_digits.l0 k y0 y1) (stockaderef18_digits.l0 (k + 1) y0 y1))
 | 0 => fun _ _ r h => by simp [stockaderef18_digits.l0] at h
 | k + 1 => by
  have ih0 := stockaderef18_digits.mono_l k
  ·intro y0 y1
   unfold stockaderef18_digits.l0
   repeat' first
   | (with_reducible exact ih0 _ _)
   | (with_reducible exact LeO.refl _)
   | (with_reducible exact LeO.none _)
   | (with_reducible refine LeO.ite ?_ ?_)
   | (with_reducible refine LeO.bind ?_ (fun _ => ?_))
   | exact ih0 _ _
   | exact LeO.none _
   | refine LeO.ite ?_ ?_
   | refine LeO.bind ?_ (fun _ => ?_)
theorem stockaderef18_digits.mono : ∀ a0 k, LeO (stockaderef18_digits.f k a0) (stockaderef18_digits.f (k + 1) a0) := by
 intro a0 k
 have ih0 := stockaderef18_digits.mono_l k
 unfold stockaderef18_digits.f
 repeat' first
   | (with_reducible exact ih0 _ _)
   | (with_reducible exact LeO.refl _)
   | (with_reducible exact LeO.none _)
   | (with_reducible refine LeO.ite ?_ ?_)
   | (with_reducible refine LeO.bind ?_ (fun _ => ?_))
   | exact ih0 _ _
   | exact LeO.none _
   | refine LeO.ite ?_ ?_
   | refine LeO.bind ?_ (fun _ => ?_)
set_option maxHeartbeats 8000000 in
set_option maxRecDepth 100000 in
theorem stockaderef18_digits.calls (k : Nat) (a0 : Int) (r : ByteArray) (w : World) (h : stockaderef18_digits.f k a0 = some r) :
  Calls Tryd.prog 48 #[.int .u64 a0] w fun e w' => e = .returned (.string r) ∧ Below w.heap.size w w' := by
 have HB := Aside0.mk (Below.refl w.heap.size w)
 have H : (stockaderef18_digits.l0 k a0 (⟨#[]⟩ : ByteArray)) = some r := h
 clear h
 have H' := Aside0.mk H
 clear H
 go_enter Tryd.func48, Tryd.ntmps48
 go_wp2
 go_loopg [0, 3] k (fun kq v0 v3 w' => ∃ (x0_1 : Int) (x3_1 : ByteArray), v0 = .int .u64 x0_1 ∧ v3 = .string x3_1 ∧ Aside0 (stockaderef18_digits.l0 kq x0_1 x3_1 = some r) ∧ Aside0 (kq ≤ k) ∧ Aside0 (Below w.heap.size w w'))
 case atStart => exact ⟨(a0), ((⟨#[]⟩ : ByteArray)), eq_now, eq_now, H', ⟨Nat.le_refl _⟩, ⟨b_now⟩⟩
 case round =>
  clear H'
  obtain ⟨x0_1, x3_1, rfl, rfl, HA, HK1, HB⟩ := hrel
  cases gk with
  | zero => exact absurd HA.out (by simp [stockaderef18_digits.l0])
  | succ k1 =>
   have H := HA.out
   clear HA
   simp only [stockaderef18_digits.l0] at H
   by_cases c2 : x0_1 > 9
   ·rw [if_pos c2] at H
    have c2b0 : decide (9 < x0_1) = true := decide_eq_true c2
    clear c2
    obtain ⟨y313, hy313⟩ : ∃ y_ : List Int, y_ = (([(IntKind.u64.wrap (48 + (Int.tmod x0_1 10))) % 256] : List Int)) := ⟨_, rfl⟩
    replace H : (if (strOfNums y313).size + x3_1.size ≤ 9223372036854775807 then (stockaderef18_digits.l0 k1 (IntKind.u64.wrap (Int.tdiv x0_1 10)) ((strOfNums y313) ++ x3_1)) else (none)) = some r := by first | (rw [hy313]; with_reducible exact H) | (have H2_ := (Option.bind_some _ _).symm.trans H; rw [hy313]; with_reducible exact H2_) | (have H2_ := (Option.bind_some _ _).symm.trans H; with_reducible exact H2_) | with_reducible exact H | (rw [hy313]; exact H) | exact H
    have Ny313 := Aside0.mk hy313
    clear hy313
    by_cases c3 : (strOfNums y313).size + x3_1.size ≤ 9223372036854775807
    ·rw [if_pos c3] at H
     have c3b0 := eq_true c3
     have c3b1 : decide ((strOfNums y313).size + x3_1.size ≤ 9223372036854775807) = true := decide_eq_true c3
     try have c3b2 : (9223372036854775807 < (strOfNums y313).size + x3_1.size) = False := eq_false (Nat.not_lt.2 c3)
     have H' := Aside0.mk H
     clear H
     go_wp2_with (first | ((with_reducible refine gate_dst (N := 10) rfl ?_); refine Kd.R_lit (Kd.int .u8) _ 5 ?hg (N := 10) ?hd (xs := ([(IntKind.u64.wrap (48 + (Int.tmod x0_1 10))) % 256] : List Int)) (inner := [.int .u8 ((IntKind.u64.wrap (48 + (Int.tmod x0_1 10))) % 256)]) (ok := fun _ => True) (okp := fun _ => True) ?hr ?hp (fun _ hk => hk) trivial (Below.refl _ _) (Nat.le_refl _) (by simp) ?_; (case hd => rfl); (case hg => rfl); (case hr => first | (go_simp; done) | (go_simp; rfl)); (case hp => exact (Reps.one (show Kd.M (Kd.int .u8) _ _ _ ((IntKind.u64.wrap (48 + (Int.tmod x0_1 10))) % 256) [.int .u8 ((IntKind.u64.wrap (48 + (Int.tmod x0_1 10))) % 256)] from rfl) (Reps.none _ _))); intro v314 w4 ho5 hb hg_ hnew_; clear hg_ hnew_; (first | rw [← Ny313.out] at ho5 | (simp only [Int.reduceToNat] at ho5; rw [← Ny313.out] at ho5)); have HO315 := Aside0.mk (Kd.R_lower ho5 (below_size b_now)); replace HB := sh_b (w := w) hb; clear hb ho5; have hcv6 := own_string (P := Tryd.prog) Tryd.underlying37 Tryd.underlying5 Tryd.underlying9 (Kd.own_of_R HO315.out)))
     go_roundg k1
     case measure => have := HK1.out; omega
     case rel => exact ⟨(IntKind.u64.wrap (Int.tdiv x0_1 10)), ((strOfNums y313) ++ x3_1), eq_now, eq_now, H', ⟨by have := HK1.out; omega⟩, ⟨b_now⟩⟩
    ·rw [if_neg c3] at H
     exact absurd H (by simp)
   ·rw [if_neg c2] at H
    have c2b0 : decide (9 < x0_1) = false := decide_eq_false c2
    clear c2
    obtain ⟨y316, hy316⟩ : ∃ y_ : List Int, y_ = (([(IntKind.u64.wrap (48 + x0_1)) % 256] : List Int)) := ⟨_, rfl⟩
    replace H : (if (strOfNums y316).size + x3_1.size ≤ 9223372036854775807 then (some ((strOfNums y316) ++ x3_1)) else (none)) = some r := by first | (rw [hy316]; with_reducible exact H) | (have H2_ := (Option.bind_some _ _).symm.trans H; rw [hy316]; with_reducible exact H2_) | (have H2_ := (Option.bind_some _ _).symm.trans H; with_reducible exact H2_) | with_reducible exact H | (rw [hy316]; exact H) | exact H
    have Ny316 := Aside0.mk hy316
    clear hy316
    by_cases c7 : (strOfNums y316).size + x3_1.size ≤ 9223372036854775807
    ·rw [if_pos c7] at H
     have c7b0 := eq_true c7
     have c7b1 : decide ((strOfNums y316).size + x3_1.size ≤ 9223372036854775807) = true := decide_eq_true c7
     try have c7b2 : (9223372036854775807 < (strOfNums y316).size + x3_1.size) = False := eq_false (Nat.not_lt.2 c7)
     obtain rfl := Option.some.inj H
     go_wp2_with (first | ((with_reducible refine gate_dst (N := 19) rfl ?_); refine Kd.R_lit (Kd.int .u8) _ 5 ?hg (N := 19) ?hd (xs := ([(IntKind.u64.wrap (48 + x0_1)) % 256] : List Int)) (inner := [.int .u8 ((IntKind.u64.wrap (48 + x0_1)) % 256)]) (ok := fun _ => True) (okp := fun _ => True) ?hr ?hp (fun _ hk => hk) trivial (Below.refl _ _) (Nat.le_refl _) (by simp) ?_; (case hd => rfl); (case hg => rfl); (case hr => first | (go_simp; done) | (go_simp; rfl)); (case hp => exact (Reps.one (show Kd.M (Kd.int .u8) _ _ _ ((IntKind.u64.wrap (48 + x0_1)) % 256) [.int .u8 ((IntKind.u64.wrap (48 + x0_1)) % 256)] from rfl) (Reps.none _ _))); intro v317 w8 ho9 hb hg_ hnew_; clear hg_ hnew_; (first | rw [← Ny316.out] at ho9 | (simp only [Int.reduceToNat] at ho9; rw [← Ny316.out] at ho9)); have HO318 := Aside0.mk (Kd.R_lower ho9 (below_size b_now)); replace HB := sh_b (w := w) hb; clear hb ho9; have hcv10 := own_string (P := Tryd.prog) Tryd.underlying37 Tryd.underlying5 Tryd.underlying9 (Kd.own_of_R HO318.out)))
     go_ret
     exact ⟨ret_now, b_now⟩
    ·rw [if_neg c7] at H
     exact absurd H (by simp)

end Go.Proofs.YtighficpbplkhaaDoor.P
