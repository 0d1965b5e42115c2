/- Made by this session's driver over the kit's printer: for each Go function a Lean function with the same answers, and a proof that the Go call comes to these answers; no conditions but the ones each theorem names. -/
import Derived.Test.YtighficpbplkhaaDoorPx0
import Derived.Test.YtighficpbplkhaaDoorPx24
import Derived.Test.YtighficpbplkhaaDoorPx25
namespace Go.Proofs.YtighficpbplkhaaDoor.P
open Go.RowKit Go.Proofs.YtighficpbplkhaaDoorW.PrintWords Go.Proofs.YtighficpbplkhaaDoorW.PrintLast Go.Proofs.YtighficpbplkhaaDoorW.PrintMore
attribute [local go_sem] max2_int min2_int max_two min_two max_three min_three max_four min_four   -- for this text's walks alone
set_option linter.unusedVariables false
set_option linter.unusedSimpArgs false

/-! ### stockaderef18_Print: function 16 -/
def stockaderef18_Print.l0 : Nat → List (S46) → ByteArray → Int → Option (ByteArray × Int)
 | 0, _, _, _ => none
 | k + 1, x0, x6, x7 => if x7 < (x0.length : Int) then (if 0 ≤ x7 then ((stockaderef18_Line.f k ((rd_T46 x0 x7).f0) ((rd_T46 x0 x7).f1)).bind fun t337 => (if x6.size + t337.size ≤ 9223372036854775807 then (stockaderef18_Print.l0 k x0 (x6 ++ t337) (wrap64 (x7 + 1))) else (none))) else (none)) else (some (x6, 0))
def stockaderef18_Print.f (k : Nat) (l0 : List (S46)) : Option (ByteArray × Int) := (stockaderef18_Check.f k l0).bind fun bt334 => (if bt334.2 = 0 then (stockaderef18_Print.l0 k l0 (⟨#[]⟩ : ByteArray) 0) else (some ((⟨#[]⟩ : ByteArray), bt334.2)))
theorem stockaderef18_Print.mono_l : ∀ k, (∀ y0 y1 y2, LeO (stockaderef18_Print.l0 k y0 y1 y2) (stockaderef18_Print.l0 (k + 1) y0 y1 y2))
 | 0 => fun _ _ _ r h => by simp [stockaderef18_Print.l0] at h
 | k + 1 => by
  have ih0 := stockaderef18_Print.mono_l k
  ·intro y0 y1 y2
   unfold stockaderef18_Print.l0
   repeat' first
   | (with_reducible exact ih0 _ _ _)
   | (with_reducible exact stockaderef18_Check.mono _ _)
   | (with_reducible exact stockaderef18_Line.mono _ _ _)
   | (with_reducible exact LeO.refl _)
   | (with_reducible exact LeO.none _)
   | (with_reducible refine LeO.ite ?_ ?_)
   | (with_reducible refine LeO.bind ?_ (fun _ => ?_))
   | exact ih0 _ _ _
   | exact stockaderef18_Check.mono _ _
   | exact stockaderef18_Line.mono _ _ _
   | exact LeO.none _
   | refine LeO.ite ?_ ?_
   | refine LeO.bind ?_ (fun _ => ?_)
theorem stockaderef18_Print.mono : ∀ a0 k, LeO (stockaderef18_Print.f k a0) (stockaderef18_Print.f (k + 1) a0) := by
 intro a0 k
 have ih0 := stockaderef18_Print.mono_l k
 unfold stockaderef18_Print.f
 repeat' first
   | (with_reducible exact ih0 _ _ _)
   | (with_reducible exact stockaderef18_Check.mono _ _)
   | (with_reducible exact stockaderef18_Line.mono _ _ _)
   | (with_reducible exact LeO.refl _)
   | (with_reducible exact LeO.none _)
   | (with_reducible refine LeO.ite ?_ ?_)
   | (with_reducible refine LeO.bind ?_ (fun _ => ?_))
   | exact ih0 _ _ _
   | exact stockaderef18_Check.mono _ _
   | exact stockaderef18_Line.mono _ _ _
   | exact LeO.none _
   | refine LeO.ite ?_ ?_
   | refine LeO.bind ?_ (fun _ => ?_)
set_option maxHeartbeats 8000000 in
set_option maxRecDepth 100000 in
theorem stockaderef18_Print.calls (k : Nat) (A0 : Option Addr) (c0 : Nat) (l0 : List (S46)) (r1 : ByteArray) (r2 : Int) (w : World) (hr0 : Kd.C k46 w A0 l0.length l0) (hc0 : l0.length ≤ c0) (h : stockaderef18_Print.f k l0 = some (r1, r2)) :
  Calls Tryd.prog 16 #[.slice A0 l0.length c0] w fun e w' => e = .returned (.tuple #[.string r1, .int .i64 r2]) ∧ Below w.heap.size w w' := by
 have hu46 := Tryd.underlying46
 have HR0 := Aside0.mk hr0
 have HC0 := Aside0.mk hc0
 clear hr0 hc0
 have HB := Aside0.mk (Below.refl w.heap.size w)
 have H : ((stockaderef18_Check.f k l0).bind fun bt334 => (if bt334.2 = 0 then (stockaderef18_Print.l0 k l0 (⟨#[]⟩ : ByteArray) 0) else (some ((⟨#[]⟩ : ByteArray), bt334.2)))) = some (r1, r2) := h
 clear h
 replace H := Option.bind_eq_some_iff.mp H; obtain ⟨⟨t334, t335⟩, A20, H⟩ := H; try dsimp only at H
 have A2 := Aside0.mk A20
 clear A20
 by_cases c3 : t335 = 0
 ·rw [if_pos c3] at H
  have c3b0 : (t335 == 0) = true := beq_iff_eq.mpr c3
  have c3b1 : (t335 != 0) = false := bne_eq_false_iff_eq.mpr c3
  clear c3
  have H' := Aside0.mk H
  clear H
  go_enter Tryd.func16, Tryd.ntmps16
  go_wp2_with (first | ((with_reducible refine gate_callee (f := 14) rfl ?_); refine sh_call (some 10) Tryd.func14 #[.slice A0 l0.length c0] ?_; (with_reducible refine (stockaderef18_Check.calls k _ _ l0 t334 t335 _ ?side1 ?side2 A2.out).mono ?_); (case side1 => repeat (first | exact HR0.out | (with_reducible refine Kd.C_alloc ?_ _) | (with_reducible refine Kd.C_drewN ?_ _) | (with_reducible refine Kd.C_drew ?_))); (case side2 => exact HC0.out); rintro e w4 ⟨rfl, hb⟩; refine ⟨_, rfl, ?_⟩; replace HB := sh_b (w := w) hb; (try clear hb); (try clear hb2); (try clear hk); (try clear hi)))
  go_loopg [6, 7] k (fun kq v6 v7 w' => ∃ (x6_1 : ByteArray) (x7_1 : Int), v6 = .string x6_1 ∧ v7 = .int .i64 x7_1 ∧ Aside0 (stockaderef18_Print.l0 kq l0 x6_1 x7_1 = some (r1, r2)) ∧ Aside0 (kq ≤ k) ∧ Aside0 (Below w.heap.size w w'))
  case atStart => exact ⟨((⟨#[]⟩ : ByteArray)), (0), eq_now, eq_now, H', ⟨Nat.le_refl _⟩, ⟨b_now⟩⟩
  case round =>
   clear H'
   clear c3b0 c3b1
   obtain ⟨x6_1, x7_1, rfl, rfl, HA, HK1, HB⟩ := hrel
   cases gk with
   | zero => exact absurd HA.out (by simp [stockaderef18_Print.l0])
   | succ k1 =>
    have H := HA.out
    clear HA
    simp only [stockaderef18_Print.l0] at H
    by_cases c5 : x7_1 < (l0.length : Int)
    ·rw [if_pos c5] at H
     have c5b0 : decide (x7_1 < (l0.length : Int)) = true := decide_eq_true c5
     clear c5
     by_cases c6 : 0 ≤ x7_1
     ·rw [if_pos c6] at H
      have c6b0 : decide (0 ≤ x7_1) = true := decide_eq_true c6
      clear c6
      replace H := Option.bind_eq_some_iff.mp H; obtain ⟨t337, A70, H⟩ := H; try dsimp only at H
      have A7 := Aside0.mk A70
      clear A70
      by_cases c8 : x6_1.size + t337.size ≤ 9223372036854775807
      ·rw [if_pos c8] at H
       have c8b0 := eq_true c8
       have c8b1 : decide (x6_1.size + t337.size ≤ 9223372036854775807) = true := decide_eq_true c8
       try have c8b2 : (9223372036854775807 < x6_1.size + t337.size) = False := eq_false (Nat.not_lt.2 c8)
       have H' := Aside0.mk H
       clear H
       have p336 : 0 ≤ (x7_1 : Int) := of_decide_eq_true (by first | (with_reducible assumption) | assumption)
       have q336 : x7_1 < (l0.length : Int) := of_decide_eq_true (by first | (with_reducible assumption) | assumption)
       obtain ⟨ad336, A336_0, c336_0, e336, hx336_0, hx336_1, hl336_0, hi336_0⟩ := at_T46 HR0.out x7_1 p336 q336
       cases e336
       replace hx336_0 := (HB.out.cell (World.block_lt_of_cell? w _ hx336_0)).trans hx336_0
       replace hx336_1 := (HB.out.cell (World.block_lt_of_cell? w _ hx336_1)).trans hx336_1
       have HR336_0 := Aside0.mk hi336_0
       have HC336_0 := Aside0.mk hl336_0
       clear hi336_0 hl336_0
       replace p336 := eq_true p336
       replace q336 := eq_true q336
       go_wp2_with (first | ((with_reducible refine gate_callee (f := 34) rfl ?_); refine sh_call (some 27) Tryd.func34 #[.agg #[.slice A336_0 ((rd_T46 l0 x7_1).f0).length c336_0, .int .u32 ((rd_T46 l0 x7_1).f1)]] ?_; (with_reducible refine (stockaderef18_Line.calls k1 _ _ ((rd_T46 l0 x7_1).f0) ((rd_T46 l0 x7_1).f1) t337 _ ?side1 ?side2 A7.out).mono ?_); (case side1 => repeat (first | exact (Kd.C_below HR336_0.out HB.out) | (with_reducible refine Kd.C_alloc ?_ _) | (with_reducible refine Kd.C_drewN ?_ _) | (with_reducible refine Kd.C_drew ?_))); (case side2 => exact HC336_0.out); rintro e w9 ⟨rfl, hb⟩; refine ⟨_, rfl, ?_⟩; replace HB := sh_b (w := w) hb; (try clear hb); (try clear hb2); (try clear hk); (try clear hi)))
       go_roundg k1
       case measure => have := HK1.out; omega
       case rel => exact ⟨(x6_1 ++ t337), (wrap64 (x7_1 + 1)), eq_now, eq_now, H', ⟨by have := HK1.out; omega⟩, ⟨b_now⟩⟩
      ·rw [if_neg c8] at H
       exact absurd H (by simp)
     ·rw [if_neg c6] at H
      exact absurd H (by simp)
    ·rw [if_neg c5] at H
     have c5b0 : decide (x7_1 < (l0.length : Int)) = false := decide_eq_false c5
     clear c5
     simp only [Option.some.injEq, Prod.mk.injEq] at H
     obtain ⟨rfl, rfl⟩ := H
     go_wp2
     go_ret2
     exact ⟨ret_now, b_now⟩
 ·rw [if_neg c3] at H
  have c3b0 : (t335 == 0) = false := beq_eq_false_iff_ne.mpr c3
  have c3b1 : (t335 != 0) = true := bne_iff_ne.mpr c3
  simp only [Option.some.injEq, Prod.mk.injEq] at H
  obtain ⟨rfl, rfl⟩ := H
  go_enter Tryd.func16, Tryd.ntmps16
  go_wp2_with (first | ((with_reducible refine gate_callee (f := 14) rfl ?_); refine sh_call (some 10) Tryd.func14 #[.slice A0 l0.length c0] ?_; (with_reducible refine (stockaderef18_Check.calls k _ _ l0 t334 t335 _ ?side1 ?side2 A2.out).mono ?_); (case side1 => repeat (first | exact HR0.out | (with_reducible refine Kd.C_alloc ?_ _) | (with_reducible refine Kd.C_drewN ?_ _) | (with_reducible refine Kd.C_drew ?_))); (case side2 => exact HC0.out); rintro e w10 ⟨rfl, hb⟩; refine ⟨_, rfl, ?_⟩; replace HB := sh_b (w := w) hb; (try clear hb); (try clear hb2); (try clear hk); (try clear hi)))
  go_ret2
  exact ⟨ret_now, b_now⟩

end Go.Proofs.YtighficpbplkhaaDoor.P
