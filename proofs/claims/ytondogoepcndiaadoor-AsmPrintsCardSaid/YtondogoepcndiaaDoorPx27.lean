/- Made by this session's driver over the kit's printer: for each Go function a Lean function with the same answers, and a proof that the Go call comes to these answers; no conditions but the ones each theorem names. -/
import Derived.Test.YtondogoepcndiaaDoorPx0
import Derived.Test.YtondogoepcndiaaDoorPx24
import Derived.Test.YtondogoepcndiaaDoorPx25
import Derived.Test.YtondogoepcndiaaDoorPx26
namespace Go.Proofs.YtondogoepcndiaaDoor.P
open Go.RowKit Go.Proofs.YtondogoepcndiaaDoorW.PrintWords Go.Proofs.YtondogoepcndiaaDoorW.PrintLast Go.Proofs.YtondogoepcndiaaDoorW.PrintMore
attribute [local go_sem] max2_int min2_int max_two min_two max_three min_three max_four min_four   -- for this text's walks alone
set_option linter.unusedVariables false
set_option linter.unusedSimpArgs false

/-! ### stockaderef03_Print: function 10 -/
mutual
def stockaderef03_Print.l0 : Nat → List (S37) → ByteArray → Int → Option (ByteArray × Int)
 | 0, _, _, _ => none
 | k + 1, x0, x4, x5 => if x5 < (x0.length : Int) then (if 0 ≤ x5 then ((stockaderef02_Of.f k ((rd_T37 x0 x5).f0) ((rd_T37 x0 x5).f1) ((rd_T37 x0 x5).f2) ((rd_T37 x0 x5).f3) ((rd_T37 x0 x5).f4)).bind fun bt490 => (if bt490.2.2.2.2.2 = 0 then (if bt490.1 ≥ 10 then (if (wrap64 (x5 + 1)) ≥ (x0.length : Int) then (some ((⟨#[]⟩ : ByteArray), 23)) else (if 0 ≤ (wrap64 (x5 + 1)) then (if (wrap64 (x5 + 1)) < (x0.length : Int) then (if ((rd_T37 x0 (wrap64 (x5 + 1))).f0) = 0 then (if ((rd_T37 x0 (wrap64 (x5 + 1))).f1) = 0 then (if ((rd_T37 x0 (wrap64 (x5 + 1))).f2) = 0 then (if ((rd_T37 x0 (wrap64 (x5 + 1))).f3) = 0 then (if bt490.1 = 11 then (stockaderef03_Print.j1 k x0 x4 (wrap64 (x5 + 1)) (((rd_T37 x0 (wrap64 (x5 + 1))).f4) != 0) ((rd_T37 x0 x5).f0) ((rd_T37 x0 x5).f1) ((rd_T37 x0 x5).f2) ((rd_T37 x0 x5).f3) ((rd_T37 x0 x5).f4) bt490.1 bt490.2.1 bt490.2.2.1 bt490.2.2.2.1 bt490.2.2.2.2.1 ((rd_T37 x0 (wrap64 (x5 + 1))).f0) ((rd_T37 x0 (wrap64 (x5 + 1))).f1) ((rd_T37 x0 (wrap64 (x5 + 1))).f2) ((rd_T37 x0 (wrap64 (x5 + 1))).f3) ((rd_T37 x0 (wrap64 (x5 + 1))).f4)) else (stockaderef03_Print.j1 k x0 x4 (wrap64 (x5 + 1)) false ((rd_T37 x0 x5).f0) ((rd_T37 x0 x5).f1) ((rd_T37 x0 x5).f2) ((rd_T37 x0 x5).f3) ((rd_T37 x0 x5).f4) bt490.1 bt490.2.1 bt490.2.2.1 bt490.2.2.2.1 bt490.2.2.2.2.1 ((rd_T37 x0 (wrap64 (x5 + 1))).f0) ((rd_T37 x0 (wrap64 (x5 + 1))).f1) ((rd_T37 x0 (wrap64 (x5 + 1))).f2) ((rd_T37 x0 (wrap64 (x5 + 1))).f3) ((rd_T37 x0 (wrap64 (x5 + 1))).f4))) else (stockaderef03_Print.j1 k x0 x4 (wrap64 (x5 + 1)) true ((rd_T37 x0 x5).f0) ((rd_T37 x0 x5).f1) ((rd_T37 x0 x5).f2) ((rd_T37 x0 x5).f3) ((rd_T37 x0 x5).f4) bt490.1 bt490.2.1 bt490.2.2.1 bt490.2.2.2.1 bt490.2.2.2.2.1 ((rd_T37 x0 (wrap64 (x5 + 1))).f0) ((rd_T37 x0 (wrap64 (x5 + 1))).f1) ((rd_T37 x0 (wrap64 (x5 + 1))).f2) ((rd_T37 x0 (wrap64 (x5 + 1))).f3) ((rd_T37 x0 (wrap64 (x5 + 1))).f4))) else (stockaderef03_Print.j1 k x0 x4 (wrap64 (x5 + 1)) true ((rd_T37 x0 x5).f0) ((rd_T37 x0 x5).f1) ((rd_T37 x0 x5).f2) ((rd_T37 x0 x5).f3) ((rd_T37 x0 x5).f4) bt490.1 bt490.2.1 bt490.2.2.1 bt490.2.2.2.1 bt490.2.2.2.2.1 ((rd_T37 x0 (wrap64 (x5 + 1))).f0) ((rd_T37 x0 (wrap64 (x5 + 1))).f1) ((rd_T37 x0 (wrap64 (x5 + 1))).f2) ((rd_T37 x0 (wrap64 (x5 + 1))).f3) ((rd_T37 x0 (wrap64 (x5 + 1))).f4))) else (stockaderef03_Print.j1 k x0 x4 (wrap64 (x5 + 1)) true ((rd_T37 x0 x5).f0) ((rd_T37 x0 x5).f1) ((rd_T37 x0 x5).f2) ((rd_T37 x0 x5).f3) ((rd_T37 x0 x5).f4) bt490.1 bt490.2.1 bt490.2.2.1 bt490.2.2.2.1 bt490.2.2.2.2.1 ((rd_T37 x0 (wrap64 (x5 + 1))).f0) ((rd_T37 x0 (wrap64 (x5 + 1))).f1) ((rd_T37 x0 (wrap64 (x5 + 1))).f2) ((rd_T37 x0 (wrap64 (x5 + 1))).f3) ((rd_T37 x0 (wrap64 (x5 + 1))).f4))) else (stockaderef03_Print.j1 k x0 x4 (wrap64 (x5 + 1)) true ((rd_T37 x0 x5).f0) ((rd_T37 x0 x5).f1) ((rd_T37 x0 x5).f2) ((rd_T37 x0 x5).f3) ((rd_T37 x0 x5).f4) bt490.1 bt490.2.1 bt490.2.2.1 bt490.2.2.2.1 bt490.2.2.2.2.1 ((rd_T37 x0 (wrap64 (x5 + 1))).f0) ((rd_T37 x0 (wrap64 (x5 + 1))).f1) ((rd_T37 x0 (wrap64 (x5 + 1))).f2) ((rd_T37 x0 (wrap64 (x5 + 1))).f3) ((rd_T37 x0 (wrap64 (x5 + 1))).f4))) else (none)) else (none))) else ((stockaderef03_Pattern.f k bt490.1 bt490.2.1 bt490.2.2.1 bt490.2.2.2.1 bt490.2.2.2.2.1).bind fun t501 => ((stockaderef03_fill.f k t501 ((rd_T37 x0 x5).f0) ((rd_T37 x0 x5).f1) ((rd_T37 x0 x5).f2) ((rd_T37 x0 x5).f3) ((rd_T37 x0 x5).f4) 0).bind fun t502 => (if x4.size + t502.size ≤ 9223372036854775807 then (if (x4 ++ t502).size + 1 ≤ 9223372036854775807 then (stockaderef03_Print.l0 k x0 ((x4 ++ t502) ++ (⟨#[10]⟩ : ByteArray)) (wrap64 (x5 + 1))) else (none)) else (none))))) else (some ((⟨#[]⟩ : ByteArray), bt490.2.2.2.2.2)))) else (none)) else (some (x4, 0))
def stockaderef03_Print.j1 : Nat → List (S37) → ByteArray → Int → Bool → Int → Int → Int → Int → Int → Int → Int → Int → Bool → Bool → Int → Int → Int → Int → Int → Option (ByteArray × Int)
 | 0, _, _, _, _, _, _, _, _, _, _, _, _, _, _, _, _, _, _, _ => none
 | k + 1, x0, x4, x5, x72, x490000, x490001, x490002, x490003, x490004, x497000, x497001, x497002, x497003, x497004, x499000, x499001, x499002, x499003, x499004 => if x72 = true then (some ((⟨#[]⟩ : ByteArray), 23)) else ((stockaderef03_Pattern.f k x497000 x497001 x497002 x497003 x497004).bind fun t499 => ((stockaderef03_fill.f k t499 x490000 x490001 x490002 x490003 x490004 x499004).bind fun t500 => (if x4.size + t500.size ≤ 9223372036854775807 then (if (x4 ++ t500).size + 1 ≤ 9223372036854775807 then (stockaderef03_Print.l0 k x0 ((x4 ++ t500) ++ (⟨#[10]⟩ : ByteArray)) (wrap64 (x5 + 1))) else (none)) else (none))))
end
def stockaderef03_Print.f (k : Nat) (l0 : List (S37)) : Option (ByteArray × Int) := if (l0.length : Int) > 512 then (some ((⟨#[]⟩ : ByteArray), 3)) else (stockaderef03_Print.l0 k l0 (⟨#[]⟩ : ByteArray) 0)
theorem stockaderef03_Print.mono_l : ∀ k, (∀ y0 y1 y2, LeO (stockaderef03_Print.l0 k y0 y1 y2) (stockaderef03_Print.l0 (k + 1) y0 y1 y2)) ∧ (∀ y0 y1 y2 y3 y4 y5 y6 y7 y8 y9 y10 y11 y12 y13 y14 y15 y16 y17 y18, LeO (stockaderef03_Print.j1 k y0 y1 y2 y3 y4 y5 y6 y7 y8 y9 y10 y11 y12 y13 y14 y15 y16 y17 y18) (stockaderef03_Print.j1 (k + 1) y0 y1 y2 y3 y4 y5 y6 y7 y8 y9 y10 y11 y12 y13 y14 y15 y16 y17 y18))
 | 0 => ⟨fun _ _ _ r h => by simp [stockaderef03_Print.l0] at h, fun _ _ _ _ _ _ _ _ _ _ _ _ _ _ _ _ _ _ _ r h => by simp [stockaderef03_Print.j1] at h⟩
 | k + 1 => by
  obtain ⟨ih0, ih1⟩ := stockaderef03_Print.mono_l k
  refine ⟨?_, ?_⟩
  ·intro y0 y1 y2
   unfold stockaderef03_Print.l0
   repeat' first
   | (with_reducible exact ih0 _ _ _)
   | (with_reducible exact ih1 _ _ _ _ _ _ _ _ _ _ _ _ _ _ _ _ _ _ _)
   | (with_reducible exact stockaderef02_Of.mono _ _ _ _ _ _)
   | (with_reducible exact stockaderef03_Pattern.mono _ _ _ _ _ _)
   | (with_reducible exact stockaderef03_fill.mono _ _ _ _ _ _ _ _)
   | (with_reducible exact LeO.refl _)
   | (with_reducible exact LeO.none _)
   | (with_reducible refine LeO.ite ?_ ?_)
   | (with_reducible refine LeO.bind ?_ (fun _ => ?_))
   | refine LeO.ite ?_ ?_
   | refine LeO.bind ?_ (fun _ => ?_)
  ·intro y0 y1 y2 y3 y4 y5 y6 y7 y8 y9 y10 y11 y12 y13 y14 y15 y16 y17 y18
   unfold stockaderef03_Print.j1
   repeat' first
   | (with_reducible exact ih0 _ _ _)
   | (with_reducible exact ih1 _ _ _ _ _ _ _ _ _ _ _ _ _ _ _ _ _ _ _)
   | (with_reducible exact stockaderef02_Of.mono _ _ _ _ _ _)
   | (with_reducible exact stockaderef03_Pattern.mono _ _ _ _ _ _)
   | (with_reducible exact stockaderef03_fill.mono _ _ _ _ _ _ _ _)
   | (with_reducible exact LeO.refl _)
   | (with_reducible exact LeO.none _)
   | (with_reducible refine LeO.ite ?_ ?_)
   | (with_reducible refine LeO.bind ?_ (fun _ => ?_))
   | refine LeO.ite ?_ ?_
   | refine LeO.bind ?_ (fun _ => ?_)
theorem stockaderef03_Print.mono : ∀ a0 k, LeO (stockaderef03_Print.f k a0) (stockaderef03_Print.f (k + 1) a0) := by
 intro a0 k
 obtain ⟨ih0, ih1⟩ := stockaderef03_Print.mono_l k
 unfold stockaderef03_Print.f
 repeat' first
   | (with_reducible exact ih0 _ _ _)
   | (with_reducible exact ih1 _ _ _ _ _ _ _ _ _ _ _ _ _ _ _ _ _ _ _)
   | (with_reducible exact stockaderef02_Of.mono _ _ _ _ _ _)
   | (with_reducible exact stockaderef03_Pattern.mono _ _ _ _ _ _)
   | (with_reducible exact stockaderef03_fill.mono _ _ _ _ _ _ _ _)
   | (with_reducible exact LeO.refl _)
   | (with_reducible exact LeO.none _)
   | (with_reducible refine LeO.ite ?_ ?_)
   | (with_reducible refine LeO.bind ?_ (fun _ => ?_))
   | refine LeO.ite ?_ ?_
   | refine LeO.bind ?_ (fun _ => ?_)
def stockaderef03_Print.T20 : Bool × List (List Nat × List Nat) := (true, [([], []), ([], []), ([1], [1]), ([], []), ([], []), ([2, 3, 4, 2], [2, 3, 4]), ([0, 5], [0, 5]), ([6], [6]), ([7, 5, 0, 1, 2, 3, 4, 5, 6, 7], [0, 7])])
def stockaderef03_Print.B20 : List Nat := [0, 0, 2, 0, 0, 30, 63, 127, 255]
theorem stockaderef03_Print.tab20 : rtab .any (opsOf Tryd.f10 20) = stockaderef03_Print.T20 := by kernel_rfl
theorem stockaderef03_Print.bits20 : waitsOk stockaderef03_Print.T20.2 stockaderef03_Print.B20 = true := by kernel_rfl
set_option maxHeartbeats 8000000 in
set_option maxRecDepth 100000 in
theorem stockaderef03_Print.calls (k : Nat) (A0 : Option Addr) (c0 : Nat) (l0 : List (S37)) (r1 : ByteArray) (r2 : Int) (w : World) (hr0 : Kd.C k37 w A0 l0.length l0) (hc0 : l0.length ≤ c0) (h : stockaderef03_Print.f k l0 = some (r1, r2)) :
  Calls Tryd.prog 10 #[.slice A0 l0.length c0] w fun e w' => e = .returned (.tuple #[.string r1, .int .i64 r2]) ∧ Below w.heap.size w w' := by
 have hu37 := Tryd.underlying37
 have hu59 := Tryd.underlying59
 have HR0 := Aside0.mk hr0
 have HC0 := Aside0.mk hc0
 clear hr0 hc0
 have HB := Aside0.mk (Below.refl w.heap.size w)
 have H : (if (l0.length : Int) > 512 then (some ((⟨#[]⟩ : ByteArray), 3)) else (stockaderef03_Print.l0 k l0 (⟨#[]⟩ : ByteArray) 0)) = some (r1, r2) := h
 clear h
 by_cases c2 : (l0.length : Int) > 512
 ·rw [if_pos c2] at H
  have c2b0 : decide (512 < (l0.length : Int)) = true := decide_eq_true c2
  have c2b1 : decide (512 < l0.length) = true := decide_eq_true (by omega)
  clear c2
  obtain ⟨rfl, rfl⟩ := pi2 H
  go_enter Tryd.func10, Tryd.ntmps10
  go_wp2
  go_ret2
  exact ⟨ret_now, b_now⟩
 ·rw [if_neg c2] at H
  have c2b0 : decide (512 < (l0.length : Int)) = false := decide_eq_false c2
  have c2b1 : decide (512 < l0.length) = false := decide_eq_false (by omega)
  clear c2
  have H' := Aside0.mk H
  clear H
  go_enter Tryd.func10, Tryd.ntmps10
  go_wp2
  go_loopg [4, 5] k (fun kq v4 v5 w' => ∃ (x4_1 : ByteArray) (x5_1 : Int), v4 = .string x4_1 ∧ v5 = .int .i64 x5_1 ∧ Aside0 (stockaderef03_Print.l0 kq l0 x4_1 x5_1 = some (r1, r2)) ∧ Aside0 (kq ≤ k) ∧ Aside0 (Below w.heap.size w w'))
  case atStart => exact ⟨((⟨#[]⟩ : ByteArray)), (0), eq_now, eq_now, H', ⟨Nat.le_refl _⟩, ⟨b_now⟩⟩
  case round =>
   clear H'
   clear c2b0 c2b1
   obtain ⟨x4_1, x5_1, rfl, rfl, HA, HK1, HB⟩ := hrel
   cases gk with
   | zero => exact absurd HA.out (by simp [stockaderef03_Print.l0])
   | succ k1 =>
    have H := HA.out
    clear HA
    simp only [stockaderef03_Print.l0] at H
    by_cases c3 : x5_1 < (l0.length : Int)
    ·rw [if_pos c3] at H
     have c3b0 : decide (x5_1 < (l0.length : Int)) = true := decide_eq_true c3
     clear c3
     by_cases c4 : 0 ≤ x5_1
     ·rw [if_pos c4] at H
      have c4b0 : decide (0 ≤ x5_1) = true := decide_eq_true c4
      clear c4
      obtain ⟨⟨t490, t491, t492, t493, t494, t495⟩, A5, H⟩ := bs_ H; try dsimp only at H
      by_cases c6 : t495 = 0
      ·rw [if_pos c6] at H
       obtain ⟨c6b0, c6b1⟩ := eqT c6
       clear c6
       by_cases c7 : t490 ≥ 10
       ·rw [if_pos c7] at H
        have c7b0 : decide (10 ≤ t490) = true := decide_eq_true c7
        clear c7
        by_cases c8 : (wrap64 (x5_1 + 1)) ≥ (l0.length : Int)
        ·rw [if_pos c8] at H
         have c8b0 : decide ((l0.length : Int) ≤ (wrap64 (x5_1 + 1))) = true := decide_eq_true c8
         clear c8
         obtain ⟨rfl, rfl⟩ := pi2 H
         have p488 : 0 ≤ (x5_1 : Int) := od_
         have q488 : x5_1 < (l0.length : Int) := od_
         obtain ⟨ad488, e488, hx488_0, hx488_1, hx488_2, hx488_3, hx488_4⟩ := at_T37 HR0.out x5_1 p488 q488
         cases e488
         replace hx488_0 := (HB.out.cell (World.block_lt_of_cell? w _ hx488_0)).trans hx488_0
         replace hx488_1 := (HB.out.cell (World.block_lt_of_cell? w _ hx488_1)).trans hx488_1
         replace hx488_2 := (HB.out.cell (World.block_lt_of_cell? w _ hx488_2)).trans hx488_2
         replace hx488_3 := (HB.out.cell (World.block_lt_of_cell? w _ hx488_3)).trans hx488_3
         replace hx488_4 := (HB.out.cell (World.block_lt_of_cell? w _ hx488_4)).trans hx488_4
         replace p488 := eq_true p488
         replace q488 := eq_true q488
         go_wp2_with (first | ((with_reducible refine gate_dst (N := 6) rfl ?_); refine sh_box 6 #[.int .u8 0, .int .u8 0, .int .u8 0, .int .i16 0, .int .i32 0] 37 ?_; intro gb489 hg w9 hbox hb; have GE489 := sh_z (w := w) hg; replace HB := sh_b (w := w) hb; have BK489 := Aside0.mk (hbox); clear hb hbox hg; have hcz10 := blk_all5 BK489.out) | ((with_reducible refine gate_callee (f := 19) rfl ?_); refine sh_call (some 26) Tryd.func19 #[.agg #[.int .u8 ((rd_T37 l0 x5_1).f0), .int .u8 ((rd_T37 l0 x5_1).f1), .int .u8 ((rd_T37 l0 x5_1).f2), .int .i16 ((rd_T37 l0 x5_1).f3), .int .i32 ((rd_T37 l0 x5_1).f4)]] ?_; (with_reducible refine (stockaderef02_Of.calls k1 ((rd_T37 l0 x5_1).f0) ((rd_T37 l0 x5_1).f1) ((rd_T37 l0 x5_1).f2) ((rd_T37 l0 x5_1).f3) ((rd_T37 l0 x5_1).f4) t490 t491 t492 t493 t494 t495 _ A5.out).mono ?_); rintro e w11 ⟨rfl, hb⟩; refine ⟨_, rfl, ?_⟩; replace BK489 := sh_kp (g := gb489) (t := 37) #[.int .u8 ((rd_T37 l0 x5_1).f0), .int .u8 ((rd_T37 l0 x5_1).f1), .int .u8 ((rd_T37 l0 x5_1).f2), .int .i16 ((rd_T37 l0 x5_1).f3), .int .i32 ((rd_T37 l0 x5_1).f4)] hb; replace HB := sh_b (w := w) hb; (try clear hb); (try clear hb2); (try clear hk); (try clear hi)) | ((with_reducible refine gate_dst (N := 7) rfl ?_); refine sh_box 7 #[.int .i64 0, .int .i64 0, .int .i64 0, .bool false, .bool false] 59 ?_; intro gb496 hg w12 hbox hb; have GW496 := sh_z (w := w) hg; have GE496 := sh_z (w := w) hg; have NB489_496 := sh_n BK489 hg; have NB496_489 := sh_s NB489_496; replace BK489 := sh_k BK489 hb; replace HB := sh_b (w := w) hb; have BK496 := Aside0.mk (hbox); clear hb hbox hg; obtain ⟨hnb13, hnc13⟩ := nb_ NB496_489; have hcz14 := blk_all5 BK496.out))
         go_ret2
         exact ⟨ret_now, b_now⟩
        ·rw [if_neg c8] at H
         have c8b0 : decide ((l0.length : Int) ≤ (wrap64 (x5_1 + 1))) = false := decide_eq_false c8
         clear c8
         obtain ⟨ji15, hji15⟩ : ∃ j_ : Int, (wrap64 (x5_1 + 1)) = j_ := ⟨_, rfl⟩
         replace H : (if 0 ≤ (ji15) then (if (ji15) < (l0.length : Int) then (if ((rd_T37 l0 (ji15)).f0) = 0 then (if ((rd_T37 l0 (ji15)).f1) = 0 then (if ((rd_T37 l0 (ji15)).f2) = 0 then (if ((rd_T37 l0 (ji15)).f3) = 0 then (if t490 = 11 then (stockaderef03_Print.j1 k1 l0 x4_1 ji15 (((rd_T37 l0 (ji15)).f4) != 0) ((rd_T37 l0 x5_1).f0) ((rd_T37 l0 x5_1).f1) ((rd_T37 l0 x5_1).f2) ((rd_T37 l0 x5_1).f3) ((rd_T37 l0 x5_1).f4) t490 t491 t492 t493 t494 ((rd_T37 l0 (ji15)).f0) ((rd_T37 l0 (ji15)).f1) ((rd_T37 l0 (ji15)).f2) ((rd_T37 l0 (ji15)).f3) ((rd_T37 l0 (ji15)).f4)) else (stockaderef03_Print.j1 k1 l0 x4_1 ji15 false ((rd_T37 l0 x5_1).f0) ((rd_T37 l0 x5_1).f1) ((rd_T37 l0 x5_1).f2) ((rd_T37 l0 x5_1).f3) ((rd_T37 l0 x5_1).f4) t490 t491 t492 t493 t494 ((rd_T37 l0 (ji15)).f0) ((rd_T37 l0 (ji15)).f1) ((rd_T37 l0 (ji15)).f2) ((rd_T37 l0 (ji15)).f3) ((rd_T37 l0 (ji15)).f4))) else (stockaderef03_Print.j1 k1 l0 x4_1 ji15 true ((rd_T37 l0 x5_1).f0) ((rd_T37 l0 x5_1).f1) ((rd_T37 l0 x5_1).f2) ((rd_T37 l0 x5_1).f3) ((rd_T37 l0 x5_1).f4) t490 t491 t492 t493 t494 ((rd_T37 l0 (ji15)).f0) ((rd_T37 l0 (ji15)).f1) ((rd_T37 l0 (ji15)).f2) ((rd_T37 l0 (ji15)).f3) ((rd_T37 l0 (ji15)).f4))) else (stockaderef03_Print.j1 k1 l0 x4_1 ji15 true ((rd_T37 l0 x5_1).f0) ((rd_T37 l0 x5_1).f1) ((rd_T37 l0 x5_1).f2) ((rd_T37 l0 x5_1).f3) ((rd_T37 l0 x5_1).f4) t490 t491 t492 t493 t494 ((rd_T37 l0 (ji15)).f0) ((rd_T37 l0 (ji15)).f1) ((rd_T37 l0 (ji15)).f2) ((rd_T37 l0 (ji15)).f3) ((rd_T37 l0 (ji15)).f4))) else (stockaderef03_Print.j1 k1 l0 x4_1 ji15 true ((rd_T37 l0 x5_1).f0) ((rd_T37 l0 x5_1).f1) ((rd_T37 l0 x5_1).f2) ((rd_T37 l0 x5_1).f3) ((rd_T37 l0 x5_1).f4) t490 t491 t492 t493 t494 ((rd_T37 l0 (ji15)).f0) ((rd_T37 l0 (ji15)).f1) ((rd_T37 l0 (ji15)).f2) ((rd_T37 l0 (ji15)).f3) ((rd_T37 l0 (ji15)).f4))) else (stockaderef03_Print.j1 k1 l0 x4_1 ji15 true ((rd_T37 l0 x5_1).f0) ((rd_T37 l0 x5_1).f1) ((rd_T37 l0 x5_1).f2) ((rd_T37 l0 x5_1).f3) ((rd_T37 l0 x5_1).f4) t490 t491 t492 t493 t494 ((rd_T37 l0 (ji15)).f0) ((rd_T37 l0 (ji15)).f1) ((rd_T37 l0 (ji15)).f2) ((rd_T37 l0 (ji15)).f3) ((rd_T37 l0 (ji15)).f4))) else (none)) else (none)) = some (r1, r2) := by first | (rw [hji15] at H; exact H) | (simp only [hji15] at H ⊢; exact H)
         (try rw [hji15] at c8b0)
         (try rw [hji15] at A5)
         have hji15w : (IntKind.i64.wrap (x5_1 + 1)) = ji15 := (i64_w _).trans hji15
         by_cases c16 : 0 ≤ (ji15)
         ·rw [if_pos c16] at H
          have c16b0 : decide (0 ≤ (ji15)) = true := decide_eq_true c16
          clear c16
          by_cases c17 : (ji15) < (l0.length : Int)
          ·rw [if_pos c17] at H
           have c17b0 : decide ((ji15) < (l0.length : Int)) = true := decide_eq_true c17
           clear c17
           have HC18 := Aside0.mk H
           clear H
           have p488 : 0 ≤ (x5_1 : Int) := od_
           have q488 : x5_1 < (l0.length : Int) := od_
           obtain ⟨ad488, e488, hx488_0, hx488_1, hx488_2, hx488_3, hx488_4⟩ := at_T37 HR0.out x5_1 p488 q488
           cases e488
           replace hx488_0 := (HB.out.cell (World.block_lt_of_cell? w _ hx488_0)).trans hx488_0
           replace hx488_1 := (HB.out.cell (World.block_lt_of_cell? w _ hx488_1)).trans hx488_1
           replace hx488_2 := (HB.out.cell (World.block_lt_of_cell? w _ hx488_2)).trans hx488_2
           replace hx488_3 := (HB.out.cell (World.block_lt_of_cell? w _ hx488_3)).trans hx488_3
           replace hx488_4 := (HB.out.cell (World.block_lt_of_cell? w _ hx488_4)).trans hx488_4
           replace p488 := eq_true p488
           replace q488 := eq_true q488
           go_upto_region 17 with (first | ((with_reducible refine gate_dst (N := 6) rfl ?_); refine sh_box 6 #[.int .u8 0, .int .u8 0, .int .u8 0, .int .i16 0, .int .i32 0] 37 ?_; intro gb489 hg w19 hbox hb; have GE489 := sh_z (w := w) hg; replace HB := sh_b (w := w) hb; have BK489 := Aside0.mk (hbox); clear hb hbox hg; have hcz20 := blk_all5 BK489.out) | ((with_reducible refine gate_callee (f := 19) rfl ?_); refine sh_call (some 26) Tryd.func19 #[.agg #[.int .u8 ((rd_T37 l0 x5_1).f0), .int .u8 ((rd_T37 l0 x5_1).f1), .int .u8 ((rd_T37 l0 x5_1).f2), .int .i16 ((rd_T37 l0 x5_1).f3), .int .i32 ((rd_T37 l0 x5_1).f4)]] ?_; (with_reducible refine (stockaderef02_Of.calls k1 ((rd_T37 l0 x5_1).f0) ((rd_T37 l0 x5_1).f1) ((rd_T37 l0 x5_1).f2) ((rd_T37 l0 x5_1).f3) ((rd_T37 l0 x5_1).f4) t490 t491 t492 t493 t494 t495 _ A5.out).mono ?_); rintro e w21 ⟨rfl, hb⟩; refine ⟨_, rfl, ?_⟩; replace BK489 := sh_kp (g := gb489) (t := 37) #[.int .u8 ((rd_T37 l0 x5_1).f0), .int .u8 ((rd_T37 l0 x5_1).f1), .int .u8 ((rd_T37 l0 x5_1).f2), .int .i16 ((rd_T37 l0 x5_1).f3), .int .i32 ((rd_T37 l0 x5_1).f4)] hb; replace HB := sh_b (w := w) hb; (try clear hb); (try clear hb2); (try clear hk); (try clear hi)) | ((with_reducible refine gate_dst (N := 7) rfl ?_); refine sh_box 7 #[.int .i64 0, .int .i64 0, .int .i64 0, .bool false, .bool false] 59 ?_; intro gb496 hg w22 hbox hb; have GW496 := sh_z (w := w) hg; have GE496 := sh_z (w := w) hg; have NB489_496 := sh_n BK489 hg; have NB496_489 := sh_s NB489_496; replace BK489 := sh_k BK489 hb; replace HB := sh_b (w := w) hb; have BK496 := Aside0.mk (hbox); clear hb hbox hg; obtain ⟨hnb23, hnc23⟩ := nb_ NB496_489; have hcz24 := blk_all5 BK496.out; have p497 : 0 ≤ ((ji15) : Int) := od_; have q497 : (ji15) < (l0.length : Int) := od_; obtain ⟨ad497, e497, hx497_0, hx497_1, hx497_2, hx497_3, hx497_4⟩ := at_T37 HR0.out (ji15) p497 q497; obtain rfl : ad488 = ad497 := (by injection e497); have hn497_0 : ad488.block ≠ gb496 := Nat.ne_of_lt (Nat.lt_of_lt_of_le (by have := World.block_lt_of_cell? _ _ hx497_0; first | rwa [add_block] at this | exact this) GW496.out); have hn497_1 : ad488.block ≠ gb496 := Nat.ne_of_lt (Nat.lt_of_lt_of_le (by have := World.block_lt_of_cell? _ _ hx497_0; first | rwa [add_block] at this | exact this) GW496.out); have hn497_2 : ad488.block ≠ gb496 := Nat.ne_of_lt (Nat.lt_of_lt_of_le (by have := World.block_lt_of_cell? _ _ hx497_0; first | rwa [add_block] at this | exact this) GW496.out); have hn497_3 : ad488.block ≠ gb496 := Nat.ne_of_lt (Nat.lt_of_lt_of_le (by have := World.block_lt_of_cell? _ _ hx497_0; first | rwa [add_block] at this | exact this) GW496.out); have hn497_4 : ad488.block ≠ gb496 := Nat.ne_of_lt (Nat.lt_of_lt_of_le (by have := World.block_lt_of_cell? _ _ hx497_0; first | rwa [add_block] at this | exact this) GW496.out); replace hx497_0 := (HB.out.cell (World.block_lt_of_cell? w _ hx497_0)).trans hx497_0; replace hx497_1 := (HB.out.cell (World.block_lt_of_cell? w _ hx497_1)).trans hx497_1; replace hx497_2 := (HB.out.cell (World.block_lt_of_cell? w _ hx497_2)).trans hx497_2; replace hx497_3 := (HB.out.cell (World.block_lt_of_cell? w _ hx497_3)).trans hx497_3; replace hx497_4 := (HB.out.cell (World.block_lt_of_cell? w _ hx497_4)).trans hx497_4; replace hx497_0 := (cell_far (p := ⟨gb496, 0, none⟩) (ob_ hn497_0) (.int .i64 t490)).trans hx497_0; replace hx497_1 := (cell_far (p := ⟨gb496, 0, none⟩) (ob_ hn497_0) (.int .i64 t490)).trans hx497_1; replace hx497_2 := (cell_far (p := ⟨gb496, 0, none⟩) (ob_ hn497_0) (.int .i64 t490)).trans hx497_2; replace hx497_3 := (cell_far (p := ⟨gb496, 0, none⟩) (ob_ hn497_0) (.int .i64 t490)).trans hx497_3; replace hx497_4 := (cell_far (p := ⟨gb496, 0, none⟩) (ob_ hn497_0) (.int .i64 t490)).trans hx497_4; replace hx497_0 := (cell_far (p := ⟨gb496, 1, none⟩) (ob_ hn497_1) (.int .i64 t491)).trans hx497_0; replace hx497_1 := (cell_far (p := ⟨gb496, 1, none⟩) (ob_ hn497_1) (.int .i64 t491)).trans hx497_1; replace hx497_2 := (cell_far (p := ⟨gb496, 1, none⟩) (ob_ hn497_1) (.int .i64 t491)).trans hx497_2; replace hx497_3 := (cell_far (p := ⟨gb496, 1, none⟩) (ob_ hn497_1) (.int .i64 t491)).trans hx497_3; replace hx497_4 := (cell_far (p := ⟨gb496, 1, none⟩) (ob_ hn497_1) (.int .i64 t491)).trans hx497_4; replace hx497_0 := (cell_far (p := ⟨gb496, 2, none⟩) (ob_ hn497_2) (.int .i64 t492)).trans hx497_0; replace hx497_1 := (cell_far (p := ⟨gb496, 2, none⟩) (ob_ hn497_2) (.int .i64 t492)).trans hx497_1; replace hx497_2 := (cell_far (p := ⟨gb496, 2, none⟩) (ob_ hn497_2) (.int .i64 t492)).trans hx497_2; replace hx497_3 := (cell_far (p := ⟨gb496, 2, none⟩) (ob_ hn497_2) (.int .i64 t492)).trans hx497_3; replace hx497_4 := (cell_far (p := ⟨gb496, 2, none⟩) (ob_ hn497_2) (.int .i64 t492)).trans hx497_4; replace hx497_0 := (cell_far (p := ⟨gb496, 3, none⟩) (ob_ hn497_3) (.bool t493)).trans hx497_0; replace hx497_1 := (cell_far (p := ⟨gb496, 3, none⟩) (ob_ hn497_3) (.bool t493)).trans hx497_1; replace hx497_2 := (cell_far (p := ⟨gb496, 3, none⟩) (ob_ hn497_3) (.bool t493)).trans hx497_2; replace hx497_3 := (cell_far (p := ⟨gb496, 3, none⟩) (ob_ hn497_3) (.bool t493)).trans hx497_3; replace hx497_4 := (cell_far (p := ⟨gb496, 3, none⟩) (ob_ hn497_3) (.bool t493)).trans hx497_4; replace hx497_0 := (cell_far (p := ⟨gb496, 4, none⟩) (ob_ hn497_4) (.bool t494)).trans hx497_0; replace hx497_1 := (cell_far (p := ⟨gb496, 4, none⟩) (ob_ hn497_4) (.bool t494)).trans hx497_1; replace hx497_2 := (cell_far (p := ⟨gb496, 4, none⟩) (ob_ hn497_4) (.bool t494)).trans hx497_2; replace hx497_3 := (cell_far (p := ⟨gb496, 4, none⟩) (ob_ hn497_4) (.bool t494)).trans hx497_3; replace hx497_4 := (cell_far (p := ⟨gb496, 4, none⟩) (ob_ hn497_4) (.bool t494)).trans hx497_4; clear hn497_0; clear hn497_1; clear hn497_2; clear hn497_3; clear hn497_4; replace p497 := eq_true p497; replace q497 := eq_true q497) | ((with_reducible refine gate_dst (N := 10) rfl ?_); refine sh_box 10 #[.int .u8 0, .int .u8 0, .int .u8 0, .int .i16 0, .int .i32 0] 37 ?_; intro gb498 hg w25 hbox hb; have GE498 := sh_z (w := w) hg; have NB489_498 := sh_n BK489 hg; have NB496_498 := sh_n BK496 hg; have NB498_489 := sh_s NB489_498; have NB498_496 := sh_s NB496_498; replace BK489 := sh_kp (g := gb489) (t := 37) #[.int .u8 ((rd_T37 l0 x5_1).f0), .int .u8 ((rd_T37 l0 x5_1).f1), .int .u8 ((rd_T37 l0 x5_1).f2), .int .i16 ((rd_T37 l0 x5_1).f3), .int .i32 ((rd_T37 l0 x5_1).f4)] hb; replace BK496 := sh_kp (g := gb496) (t := 59) #[.int .i64 t490, .int .i64 t491, .int .i64 t492, .bool t493, .bool t494] hb; replace HB := sh_b (w := w) hb; have BK498 := Aside0.mk (hbox); clear hb hbox hg; obtain ⟨hnb26, hnc26⟩ := nb_ NB498_489; obtain ⟨hnb27, hnc27⟩ := nb_ NB498_496; have hcz28 := blk_all5 BK498.out))
           (try simp only [Act.put, List.setIfInBounds_toArray, List.set_cons_zero, List.set_cons_succ])
           go_cut [72] (fun v72 wc => ∃ (kq : Nat) (x72_17 : Bool), v72 = .bool x72_17 ∧ Aside0 (stockaderef03_Print.j1 kq l0 x4_1 ji15 x72_17 ((rd_T37 l0 x5_1).f0) ((rd_T37 l0 x5_1).f1) ((rd_T37 l0 x5_1).f2) ((rd_T37 l0 x5_1).f3) ((rd_T37 l0 x5_1).f4) t490 t491 t492 t493 t494 ((rd_T37 l0 (ji15)).f0) ((rd_T37 l0 (ji15)).f1) ((rd_T37 l0 (ji15)).f2) ((rd_T37 l0 (ji15)).f3) ((rd_T37 l0 (ji15)).f4) = some (r1, r2)) ∧ Aside0 (kq ≤ k1) ∧ Aside0 (wc.heap[gb489]? = some (.cells #[.int .u8 ((rd_T37 l0 x5_1).f0), .int .u8 ((rd_T37 l0 x5_1).f1), .int .u8 ((rd_T37 l0 x5_1).f2), .int .i16 ((rd_T37 l0 x5_1).f3), .int .i32 ((rd_T37 l0 x5_1).f4)] 37 (0, 0))) ∧ Aside0 (wc.heap[gb496]? = some (.cells #[.int .i64 t490, .int .i64 t491, .int .i64 t492, .bool t493, .bool t494] 59 (0, 0))) ∧ Aside0 (wc.heap[gb498]? = some (.cells #[.int .u8 ((rd_T37 l0 (ji15)).f0), .int .u8 ((rd_T37 l0 (ji15)).f1), .int .u8 ((rd_T37 l0 (ji15)).f2), .int .i16 ((rd_T37 l0 (ji15)).f3), .int .i32 ((rd_T37 l0 (ji15)).f4)] 37 (0, 0))) ∧ Aside0 (Below w.heap.size w wc))
           case first =>
            have H := HC18.out
            clear HC18
            by_cases c29 : ((rd_T37 l0 (ji15)).f0) = 0
            ·rw [if_pos c29] at H
             obtain ⟨c29b0, c29b1⟩ := eqT c29
             clear c29
             (first | rw [c29b0] | (simp only [i64_w, i32_w]; rw [c29b0]) | skip)
             by_cases c30 : ((rd_T37 l0 (ji15)).f1) = 0
             ·rw [if_pos c30] at H
              obtain ⟨c30b0, c30b1⟩ := eqT c30
              clear c30
              by_cases c31 : ((rd_T37 l0 (ji15)).f2) = 0
              ·rw [if_pos c31] at H
               obtain ⟨c31b0, c31b1⟩ := eqT c31
               clear c31
               by_cases c32 : ((rd_T37 l0 (ji15)).f3) = 0
               ·rw [if_pos c32] at H
                obtain ⟨c32b0, c32b1⟩ := eqT c32
                clear c32
                by_cases c33 : t490 = 11
                ·rw [if_pos c33] at H
                 obtain ⟨c33b0, c33b1⟩ := eqT c33
                 clear c33
                 have H' := Aside0.mk H
                 clear H
                 obtain ⟨hnb34, hnc34⟩ := nb_ NB498_489
                 obtain ⟨hnb35, hnc35⟩ := nb_ NB498_496
                 have hcz36 := blk_all5 BK498.out
                 obtain ⟨hnb37, hnc37⟩ := nb_ NB496_489
                 have hcz38 := blk_all5 BK496.out
                 go_wp2
                 go_meet
                 case rel => exact ⟨_, ((((rd_T37 l0 (ji15)).f4) != 0)), (by first | rfl | (simp; done) | (simp only [← hji15] <;> (first | rfl | simp)) | (simp [*]; done)), H', ⟨by have := HK1.out; first | omega | exact Nat.le_refl _⟩, ⟨bk_now⟩, ⟨bk_now⟩, ⟨bk_now⟩, ⟨b_now⟩⟩
                ·rw [if_neg c33] at H
                 obtain ⟨c33b0, c33b1⟩ := eqF c33
                 have H' := Aside0.mk H
                 clear H
                 obtain ⟨hnb39, hnc39⟩ := nb_ NB498_489
                 obtain ⟨hnb40, hnc40⟩ := nb_ NB498_496
                 have hcz41 := blk_all5 BK498.out
                 obtain ⟨hnb42, hnc42⟩ := nb_ NB496_489
                 have hcz43 := blk_all5 BK496.out
                 go_wp2
                 go_meet
                 case rel => exact ⟨_, (false), eq_now, H', ⟨by have := HK1.out; first | omega | exact Nat.le_refl _⟩, ⟨bk_now⟩, ⟨bk_now⟩, ⟨bk_now⟩, ⟨b_now⟩⟩
               ·rw [if_neg c32] at H
                obtain ⟨c32b0, c32b1⟩ := eqF c32
                have H' := Aside0.mk H
                clear H
                obtain ⟨hnb44, hnc44⟩ := nb_ NB498_489
                obtain ⟨hnb45, hnc45⟩ := nb_ NB498_496
                have hcz46 := blk_all5 BK498.out
                go_wp2
                go_meet
                case rel => exact ⟨_, (true), eq_now, H', ⟨by have := HK1.out; first | omega | exact Nat.le_refl _⟩, ⟨bk_now⟩, ⟨bk_now⟩, ⟨bk_now⟩, ⟨b_now⟩⟩
              ·rw [if_neg c31] at H
               obtain ⟨c31b0, c31b1⟩ := eqF c31
               have H' := Aside0.mk H
               clear H
               obtain ⟨hnb47, hnc47⟩ := nb_ NB498_489
               obtain ⟨hnb48, hnc48⟩ := nb_ NB498_496
               have hcz49 := blk_all5 BK498.out
               go_wp2
               go_meet
               case rel => exact ⟨_, (true), eq_now, H', ⟨by have := HK1.out; first | omega | exact Nat.le_refl _⟩, ⟨bk_now⟩, ⟨bk_now⟩, ⟨bk_now⟩, ⟨b_now⟩⟩
             ·rw [if_neg c30] at H
              obtain ⟨c30b0, c30b1⟩ := eqF c30
              have H' := Aside0.mk H
              clear H
              obtain ⟨hnb50, hnc50⟩ := nb_ NB498_489
              obtain ⟨hnb51, hnc51⟩ := nb_ NB498_496
              have hcz52 := blk_all5 BK498.out
              go_wp2
              go_meet
              case rel => exact ⟨_, (true), eq_now, H', ⟨by have := HK1.out; first | omega | exact Nat.le_refl _⟩, ⟨bk_now⟩, ⟨bk_now⟩, ⟨bk_now⟩, ⟨b_now⟩⟩
            ·rw [if_neg c29] at H
             obtain ⟨c29b0, c29b1⟩ := eqF c29
             (first | rw [c29b0] | (simp only [i64_w, i32_w]; rw [c29b0]) | skip)
             have H' := Aside0.mk H
             clear H
             obtain ⟨hnb53, hnc53⟩ := nb_ NB498_489
             obtain ⟨hnb54, hnc54⟩ := nb_ NB498_496
             have hcz55 := blk_all5 BK498.out
             go_wp2
             go_meet
             case rel => exact ⟨_, (true), eq_now, H', ⟨by have := HK1.out; first | omega | exact Nat.le_refl _⟩, ⟨bk_now⟩, ⟨bk_now⟩, ⟨bk_now⟩, ⟨b_now⟩⟩
           case rest =>
            clear HC18
            clear c3b0 c4b0 c6b0 c6b1 c7b0 c8b0 c16b0 c17b0 hcz20 hcz24 hcz28 hx488_0 hx488_1 hx488_2 hx488_3 hx488_4 hx497_0 hx497_1 hx497_2 hx497_3 hx497_4 p488 p497 q488 q497
            obtain ⟨kq, x72_17, rfl, HA, HJ17, BK489, BK496, BK498, HB⟩ := hcut
            cases kq with
            | zero => exact absurd HA.out (by simp [stockaderef03_Print.j1])
            | succ kj17 =>
             have H := HA.out
             clear HA
             simp only [stockaderef03_Print.j1] at H
             by_cases c56 : x72_17 = true
             ·subst c56
              replace H := sh_t H
              obtain ⟨rfl, rfl⟩ := pi2 H
              go_wp2
              go_ret2
              exact ⟨by first | rfl | (simp [errW_none, errW_some] <;> rfl) | (simp only [← hji15]; first | rfl | (simp [errW_none, errW_some] <;> rfl)) | (simp [*, errW_none, errW_some] <;> rfl), b_now⟩
             ·replace c56 := Bool.eq_false_iff.mpr c56
              subst c56
              replace H := sh_f H
              obtain ⟨t499, A57, H⟩ := bs_ H; try dsimp only at H
              obtain ⟨t500, A58, H⟩ := bs_ H; try dsimp only at H
              by_cases c59 : x4_1.size + t500.size ≤ 9223372036854775807
              ·rw [if_pos c59] at H
               have c59b0 := eq_true c59
               have c59b1 : decide (x4_1.size + t500.size ≤ 9223372036854775807) = true := decide_eq_true c59
               try have c59b2 : (9223372036854775807 < x4_1.size + t500.size) = False := eq_false (Nat.not_lt.2 c59)
               by_cases c60 : (x4_1 ++ t500).size + 1 ≤ 9223372036854775807
               ·rw [if_pos c60] at H
                have c60b0 := eq_true c60
                have c60_y0 : ((9223372036854775807 < x4_1.size + t500.size + 1) : Prop) = False := eq_false (by have h_ := c60; simp only [ByteArray.size_append] at h_; exact Nat.not_lt.2 h_)
                have c60_z0 : ((x4_1.size + t500.size + 1 ≤ 9223372036854775807) : Prop) = True := eq_true (by have h_ := c60; simp only [ByteArray.size_append] at h_; exact h_)
                have c60b1 : decide ((x4_1 ++ t500).size + 1 ≤ 9223372036854775807) = true := decide_eq_true c60
                try have c60b2 : (9223372036854775807 < (x4_1 ++ t500).size + 1) = False := eq_false (Nat.not_lt.2 c60)
                have H' := Aside0.mk H
                clear H
                obtain ⟨hnb61, hnc61⟩ := nb_ NB498_489
                obtain ⟨hnb62, hnc62⟩ := nb_ NB498_496
                have hcz63 := blk_all5 BK498.out
                try go_wp2
                have n0_ := Aside0.mk (blk_drew BK489.out)
                have n1_ := Aside0.mk (blk_drew BK496.out)
                have n2_ := Aside0.mk (blk_drew BK498.out)
                have n3_ := Aside0.mk (below_drew1 HB.out)
                clear BK489
                clear BK496
                clear BK498
                clear HB
                have BK489 := n0_
                have BK496 := n1_
                have BK498 := n2_
                have HB := n3_
                clear n0_ n1_ n2_ n3_
                refine start_ (n := 9) (S := fun w' => w'.cell? ⟨gb496, 0, none⟩ = some (.int .i64 t490) ∧ w'.cell? ⟨gb496, 1, none⟩ = some (.int .i64 t491) ∧ w'.cell? ⟨gb496, 2, none⟩ = some (.int .i64 t492) ∧ w'.cell? ⟨gb496, 3, none⟩ = some (.bool t493) ∧ w'.cell? ⟨gb496, 4, none⟩ = some (.bool t494) ∧ w'.cell? ⟨gb489, 0, none⟩ = some (.int .u8 ((rd_T37 l0 x5_1).f0)) ∧ w'.cell? ⟨gb489, 1, none⟩ = some (.int .u8 ((rd_T37 l0 x5_1).f1)) ∧ w'.cell? ⟨gb489, 2, none⟩ = some (.int .u8 ((rd_T37 l0 x5_1).f2)) ∧ w'.cell? ⟨gb489, 3, none⟩ = some (.int .i16 ((rd_T37 l0 x5_1).f3)) ∧ w'.cell? ⟨gb489, 4, none⟩ = some (.int .i32 ((rd_T37 l0 x5_1).f4))) (ds := []) (fl 0 9) (by kernel_rfl) rfl rfl ⟨(blk_cell BK496.out 0).trans rfl, (blk_cell BK496.out 1).trans rfl, (blk_cell BK496.out 2).trans rfl, (blk_cell BK496.out 3).trans rfl, (blk_cell BK496.out 4).trans rfl, (blk_cell BK489.out 0).trans rfl, (blk_cell BK489.out 1).trans rfl, (blk_cell BK489.out 2).trans rfl, (blk_cell BK489.out 3).trans rfl, (blk_cell BK489.out 4).trans rfl⟩ (fun hHeld => ?_); refine with_tabW stockaderef03_Print.tab20 stockaderef03_Print.bits20 (fun HT_ HW_ => ?_)
                generalize wc.drew = w64 at BK489 BK496 BK498 HB hHeld ⊢
                refine pure_ (i := 0) (N := some 75) (v := ?_) (a' := ?_) (fl 1 8) rfl rfl (any_of HT_.out (by kernel_rfl)) (fun _ _ _ h => h) (Or.inl ⟨by rfl, ?_⟩) ?_ ?_
                rotate_left; exact ga_; rotate_left; exact gb_
                refine pure_ (i := 4) (N := some 79) (v := ?_) (a' := ?_) (fm 9 17) rfl rfl (any_of HT_.out (by kernel_rfl)) (fun _ _ _ h => h) (Or.inl ⟨by rfl, ?_⟩) ?_ ?_
                rotate_left; exact ga_; rotate_left; exact gb_
                refine take_ (i := 1) (N := some 76) (v := ?_) (a' := ?_) (fm 9 19) rfl rfl (take_ofW HT_.out HW_.out (by kernel_rfl)) (fun _ _ _ h => h) (Or.inl ⟨by rfl, ?_⟩) hHeld ?_ ?_
                rotate_left
                ·rintro w' ⟨s0, s1, s2, s3, s4, s5, s6, s7, s8, s9⟩
                 go_simp
                 with_reducible rfl
                rotate_left; exact gb_
                refine take_ (i := 3) (N := some 78) (v := ?_) (a' := ?_) (fm 9 27) rfl rfl (take_ofW HT_.out HW_.out (by kernel_rfl)) (fun _ _ _ h => h) (Or.inl ⟨by rfl, ?_⟩) hHeld ?_ ?_
                rotate_left
                ·rintro w' ⟨s0, s1, s2, s3, s4, s5, s6, s7, s8, s9⟩
                 go_simp
                 with_reducible rfl
                rotate_left; exact gb_
                refine one_ (i := 2) (N := some 77) (fl 5 4) rfl rfl (one_of HT_.out (by kernel_rfl)) (by decide) (fun K hK => ?_)
                refine goes_ Tryd.func21 (by kernel_rfl) rfl #[.agg #[.int .i64 t490, .int .i64 t491, .int .i64 t492, .bool t493, .bool t494]] (by rfl) rfl rfl (by (try simp only [List.map_toArray, List.map_cons, List.map_nil]); first | done | rfl | (simp only [List.length_drop, List.length_take]; rfl)) ?_
                with_reducible refine (stockaderef03_Pattern.calls kj17 t490 t491 t492 t493 t494 t499 _ A57.out).mono ?_
                rintro e w65 ⟨rfl, hb⟩
                refine ⟨_, rfl, ?_⟩
                have n0_ := Aside0.mk (blk_below (g := gb489) (o := .cells #[.int .u8 ((rd_T37 l0 x5_1).f0), .int .u8 ((rd_T37 l0 x5_1).f1), .int .u8 ((rd_T37 l0 x5_1).f2), .int .i16 ((rd_T37 l0 x5_1).f3), .int .i32 ((rd_T37 l0 x5_1).f4)] 37 (0, 0)) bk_now hb)
                have n1_ := Aside0.mk (blk_below (g := gb496) (o := .cells #[.int .i64 t490, .int .i64 t491, .int .i64 t492, .bool t493, .bool t494] 59 (0, 0)) bk_now hb)
                have n2_ := Aside0.mk (blk_below (g := gb498) (o := .cells #[.int .u8 ((rd_T37 l0 (ji15)).f0), .int .u8 ((rd_T37 l0 (ji15)).f1), .int .u8 ((rd_T37 l0 (ji15)).f2), .int .i16 ((rd_T37 l0 (ji15)).f3), .int .i32 ((rd_T37 l0 (ji15)).f4)] 37 (0, 0)) bk_now hb)
                have n3_ := Aside0.mk (below_step b_now hb)
                clear BK489
                clear BK496
                clear BK498
                clear HB
                have BK489 := n0_
                have BK496 := n1_
                have BK498 := n2_
                have HB := n3_
                clear n0_ n1_ n2_ n3_
                (try clear hb)
                (try clear hb2)
                (try clear hk)
                (try clear hi)
                refine hK.out _ _ ⟨(blk_cell BK496.out 0).trans rfl, (blk_cell BK496.out 1).trans rfl, (blk_cell BK496.out 2).trans rfl, (blk_cell BK496.out 3).trans rfl, (blk_cell BK496.out 4).trans rfl, (blk_cell BK489.out 0).trans rfl, (blk_cell BK489.out 1).trans rfl, (blk_cell BK489.out 2).trans rfl, (blk_cell BK489.out 3).trans rfl, (blk_cell BK489.out 4).trans rfl⟩ (fun hHeld => ?_)
                clear hK K
                refine norm_ (a' := ?_) ?_ ?_
                rotate_left
                ·show Act.put _ (some 77) _ = _
                 simp only [Act.put, List.setIfInBounds_toArray, List.set_cons_zero, List.set_cons_succ, i64_w, i32_w]
                 rfl
                refine one_ (i := 5) (N := some 80) (fl 6 3) rfl rfl (one_of HT_.out (by kernel_rfl)) (by decide) (fun K hK => ?_)
                refine goes_ Tryd.func20 (by kernel_rfl) rfl #[.string t499, .agg #[.int .u8 ((rd_T37 l0 x5_1).f0), .int .u8 ((rd_T37 l0 x5_1).f1), .int .u8 ((rd_T37 l0 x5_1).f2), .int .i16 ((rd_T37 l0 x5_1).f3), .int .i32 ((rd_T37 l0 x5_1).f4)], .int .i32 ((rd_T37 l0 (ji15)).f4)] (by rfl) rfl rfl (by (try simp only [List.map_toArray, List.map_cons, List.map_nil]); first | done | (simp only [hji15]; rfl) | rfl | (simp only [List.length_drop, List.length_take]; rfl)) ?_
                with_reducible refine (stockaderef03_fill.calls kj17 t499 ((rd_T37 l0 x5_1).f0) ((rd_T37 l0 x5_1).f1) ((rd_T37 l0 x5_1).f2) ((rd_T37 l0 x5_1).f3) ((rd_T37 l0 x5_1).f4) ((rd_T37 l0 (ji15)).f4) t500 _ A58.out).mono ?_
                rintro e w66 ⟨rfl, hb⟩
                refine ⟨_, rfl, ?_⟩
                have n0_ := Aside0.mk (blk_below (g := gb489) (o := .cells #[.int .u8 ((rd_T37 l0 x5_1).f0), .int .u8 ((rd_T37 l0 x5_1).f1), .int .u8 ((rd_T37 l0 x5_1).f2), .int .i16 ((rd_T37 l0 x5_1).f3), .int .i32 ((rd_T37 l0 x5_1).f4)] 37 (0, 0)) bk_now hb)
                have n1_ := Aside0.mk (blk_below (g := gb496) (o := .cells #[.int .i64 t490, .int .i64 t491, .int .i64 t492, .bool t493, .bool t494] 59 (0, 0)) bk_now hb)
                have n2_ := Aside0.mk (blk_below (g := gb498) (o := .cells #[.int .u8 ((rd_T37 l0 (ji15)).f0), .int .u8 ((rd_T37 l0 (ji15)).f1), .int .u8 ((rd_T37 l0 (ji15)).f2), .int .i16 ((rd_T37 l0 (ji15)).f3), .int .i32 ((rd_T37 l0 (ji15)).f4)] 37 (0, 0)) bk_now hb)
                have n3_ := Aside0.mk (below_step b_now hb)
                clear BK489
                clear BK496
                clear BK498
                clear HB
                have BK489 := n0_
                have BK496 := n1_
                have BK498 := n2_
                have HB := n3_
                clear n0_ n1_ n2_ n3_
                (try clear hb)
                (try clear hb2)
                (try clear hk)
                (try clear hi)
                refine hK.out _ _ ⟨(blk_cell BK496.out 0).trans rfl, (blk_cell BK496.out 1).trans rfl, (blk_cell BK496.out 2).trans rfl, (blk_cell BK496.out 3).trans rfl, (blk_cell BK496.out 4).trans rfl, (blk_cell BK489.out 0).trans rfl, (blk_cell BK489.out 1).trans rfl, (blk_cell BK489.out 2).trans rfl, (blk_cell BK489.out 3).trans rfl, (blk_cell BK489.out 4).trans rfl⟩ (fun hHeld => ?_)
                clear hK K
                refine norm_ (a' := ?_) ?_ ?_
                rotate_left
                ·show Act.put _ (some 80) _ = _
                 simp only [Act.put, List.setIfInBounds_toArray, List.set_cons_zero, List.set_cons_succ, i64_w, i32_w]
                 rfl
                refine pure_ (i := 6) (N := some 81) (v := ?_) (a' := ?_) (fl 7 2) rfl rfl (any_of HT_.out (by kernel_rfl)) (fun _ _ _ h => h) (Or.inl ⟨by rfl, ?_⟩) ?_ ?_
                rotate_left; exact ga_; rotate_left; exact gb_
                refine pure_ (i := 7) (N := some 82) (v := ?_) (a' := ?_) (fl 8 1) rfl rfl (any_of HT_.out (by kernel_rfl)) (fun _ _ _ h => h) (Or.inl ⟨by rfl, ?_⟩) ?_ ?_
                rotate_left; exact ga_; rotate_left; exact gb_
                refine pure_ (i := 8) (N := some 4) (v := ?_) (a' := ?_) (fl 9 0) rfl rfl (any_of HT_.out (by kernel_rfl)) (fun _ _ _ h => h) (Or.inl ⟨by rfl, ?_⟩) ?_ ?_
                rotate_left; exact ga_; rotate_left; exact gb_
                refine done_ (done_of HT_.out (by kernel_rfl)) ?_
                try go_wp2
                go_roundg kj17
                case measure => have := HK1.out; have := HJ17.out; omega
                case rel => exact ⟨((x4_1 ++ t500) ++ (⟨#[10]⟩ : ByteArray)), (wrap64 (ji15 + 1)), eq_now, (by first | rfl | (simp; done) | (simp only [← hji15] <;> (first | rfl | simp)) | (simp [*]; done)), H', ⟨by have := HK1.out; have := HJ17.out; omega⟩, ⟨b_now⟩⟩
               ·rw [if_neg c60] at H
                exact absurd H (by simp)
              ·rw [if_neg c59] at H
               exact absurd H (by simp)
          ·rw [if_neg c17] at H
           exact absurd H (by simp)
         ·rw [if_neg c16] at H
          exact absurd H (by simp)
       ·rw [if_neg c7] at H
        have c7b0 : decide (10 ≤ t490) = false := decide_eq_false c7
        clear c7
        obtain ⟨t501, A67, H⟩ := bs_ H; try dsimp only at H
        obtain ⟨t502, A68, H⟩ := bs_ H; try dsimp only at H
        by_cases c69 : x4_1.size + t502.size ≤ 9223372036854775807
        ·rw [if_pos c69] at H
         have c69b0 := eq_true c69
         have c69b1 : decide (x4_1.size + t502.size ≤ 9223372036854775807) = true := decide_eq_true c69
         try have c69b2 : (9223372036854775807 < x4_1.size + t502.size) = False := eq_false (Nat.not_lt.2 c69)
         by_cases c70 : (x4_1 ++ t502).size + 1 ≤ 9223372036854775807
         ·rw [if_pos c70] at H
          have c70b0 := eq_true c70
          have c70_y0 : ((9223372036854775807 < x4_1.size + t502.size + 1) : Prop) = False := eq_false (by have h_ := c70; simp only [ByteArray.size_append] at h_; exact Nat.not_lt.2 h_)
          have c70_z0 : ((x4_1.size + t502.size + 1 ≤ 9223372036854775807) : Prop) = True := eq_true (by have h_ := c70; simp only [ByteArray.size_append] at h_; exact h_)
          have c70b1 : decide ((x4_1 ++ t502).size + 1 ≤ 9223372036854775807) = true := decide_eq_true c70
          try have c70b2 : (9223372036854775807 < (x4_1 ++ t502).size + 1) = False := eq_false (Nat.not_lt.2 c70)
          have H' := Aside0.mk H
          clear H
          have p488 : 0 ≤ (x5_1 : Int) := od_
          have q488 : x5_1 < (l0.length : Int) := od_
          obtain ⟨ad488, e488, hx488_0, hx488_1, hx488_2, hx488_3, hx488_4⟩ := at_T37 HR0.out x5_1 p488 q488
          cases e488
          replace hx488_0 := (HB.out.cell (World.block_lt_of_cell? w _ hx488_0)).trans hx488_0
          replace hx488_1 := (HB.out.cell (World.block_lt_of_cell? w _ hx488_1)).trans hx488_1
          replace hx488_2 := (HB.out.cell (World.block_lt_of_cell? w _ hx488_2)).trans hx488_2
          replace hx488_3 := (HB.out.cell (World.block_lt_of_cell? w _ hx488_3)).trans hx488_3
          replace hx488_4 := (HB.out.cell (World.block_lt_of_cell? w _ hx488_4)).trans hx488_4
          replace p488 := eq_true p488
          replace q488 := eq_true q488
          try go_wp2_with (first | ((with_reducible refine gate_dst (N := 6) rfl ?_); refine sh_box 6 #[.int .u8 0, .int .u8 0, .int .u8 0, .int .i16 0, .int .i32 0] 37 ?_; intro gb489 hg w71 hbox hb; have GE489 := sh_z (w := w) hg; replace HB := sh_b (w := w) hb; have BK489 := Aside0.mk (hbox); clear hb hbox hg; have hcz72 := blk_all5 BK489.out) | ((with_reducible refine gate_callee (f := 19) rfl ?_); refine sh_call (some 26) Tryd.func19 #[.agg #[.int .u8 ((rd_T37 l0 x5_1).f0), .int .u8 ((rd_T37 l0 x5_1).f1), .int .u8 ((rd_T37 l0 x5_1).f2), .int .i16 ((rd_T37 l0 x5_1).f3), .int .i32 ((rd_T37 l0 x5_1).f4)]] ?_; (with_reducible refine (stockaderef02_Of.calls k1 ((rd_T37 l0 x5_1).f0) ((rd_T37 l0 x5_1).f1) ((rd_T37 l0 x5_1).f2) ((rd_T37 l0 x5_1).f3) ((rd_T37 l0 x5_1).f4) t490 t491 t492 t493 t494 t495 _ A5.out).mono ?_); rintro e w73 ⟨rfl, hb⟩; refine ⟨_, rfl, ?_⟩; replace BK489 := sh_kp (g := gb489) (t := 37) #[.int .u8 ((rd_T37 l0 x5_1).f0), .int .u8 ((rd_T37 l0 x5_1).f1), .int .u8 ((rd_T37 l0 x5_1).f2), .int .i16 ((rd_T37 l0 x5_1).f3), .int .i32 ((rd_T37 l0 x5_1).f4)] hb; replace HB := sh_b (w := w) hb; (try clear hb); (try clear hb2); (try clear hk); (try clear hi)) | ((with_reducible refine gate_dst (N := 7) rfl ?_); refine sh_box 7 #[.int .i64 0, .int .i64 0, .int .i64 0, .bool false, .bool false] 59 ?_; intro gb496 hg w74 hbox hb; have GW496 := sh_z (w := w) hg; have GE496 := sh_z (w := w) hg; have NB489_496 := sh_n BK489 hg; have NB496_489 := sh_s NB489_496; replace BK489 := sh_k BK489 hb; replace HB := sh_b (w := w) hb; have BK496 := Aside0.mk (hbox); clear hb hbox hg; obtain ⟨hnb75, hnc75⟩ := nb_ NB496_489; have hcz76 := blk_all5 BK496.out))
          have n0_ : Aside0 ((((((w74.setCell ⟨gb496, 0, none⟩ (.int .i64 t490)).setCell ⟨gb496, 1, none⟩ (.int .i64 t491)).setCell ⟨gb496, 2, none⟩ (.int .i64 t492)).setCell ⟨gb496, 3, none⟩ (.bool t493)).setCell ⟨gb496, 4, none⟩ (.bool t494)).heap[gb489]? = some (.cells #[.int .u8 ((rd_T37 l0 x5_1).f0), .int .u8 ((rd_T37 l0 x5_1).f1), .int .u8 ((rd_T37 l0 x5_1).f2), .int .i16 ((rd_T37 l0 x5_1).f3), .int .i32 ((rd_T37 l0 x5_1).f4)] 37 (0, 0))) := ⟨bk_now⟩
          have n1_ : Aside0 ((((((w74.setCell ⟨gb496, 0, none⟩ (.int .i64 t490)).setCell ⟨gb496, 1, none⟩ (.int .i64 t491)).setCell ⟨gb496, 2, none⟩ (.int .i64 t492)).setCell ⟨gb496, 3, none⟩ (.bool t493)).setCell ⟨gb496, 4, none⟩ (.bool t494)).heap[gb496]? = some (.cells #[.int .i64 t490, .int .i64 t491, .int .i64 t492, .bool t493, .bool t494] 59 (0, 0))) := ⟨bk_now⟩
          have n2_ : Aside0 (Below w.heap.size w (((((w74.setCell ⟨gb496, 0, none⟩ (.int .i64 t490)).setCell ⟨gb496, 1, none⟩ (.int .i64 t491)).setCell ⟨gb496, 2, none⟩ (.int .i64 t492)).setCell ⟨gb496, 3, none⟩ (.bool t493)).setCell ⟨gb496, 4, none⟩ (.bool t494))) := ⟨b_now⟩
          (try clear BK489)
          (try clear BK496)
          (try clear HB)
          generalize (((((w74.setCell ⟨gb496, 0, none⟩ (.int .i64 t490)).setCell ⟨gb496, 1, none⟩ (.int .i64 t491)).setCell ⟨gb496, 2, none⟩ (.int .i64 t492)).setCell ⟨gb496, 3, none⟩ (.bool t493)).setCell ⟨gb496, 4, none⟩ (.bool t494)) = w77 at n0_ n1_ n2_ ⊢
          have BK489 := n0_
          have BK496 := n1_
          have HB := n2_
          clear n0_ n1_ n2_
          have n0_ := Aside0.mk (blk_drew BK489.out)
          have n1_ := Aside0.mk (blk_drew BK496.out)
          have n2_ := Aside0.mk (below_drew1 HB.out)
          clear BK489
          clear BK496
          clear HB
          have BK489 := n0_
          have BK496 := n1_
          have HB := n2_
          clear n0_ n1_ n2_
          refine start_ (n := 9) (S := fun w' => w'.cell? ⟨gb496, 0, none⟩ = some (.int .i64 t490) ∧ w'.cell? ⟨gb496, 1, none⟩ = some (.int .i64 t491) ∧ w'.cell? ⟨gb496, 2, none⟩ = some (.int .i64 t492) ∧ w'.cell? ⟨gb496, 3, none⟩ = some (.bool t493) ∧ w'.cell? ⟨gb496, 4, none⟩ = some (.bool t494) ∧ w'.cell? ⟨gb489, 0, none⟩ = some (.int .u8 ((rd_T37 l0 x5_1).f0)) ∧ w'.cell? ⟨gb489, 1, none⟩ = some (.int .u8 ((rd_T37 l0 x5_1).f1)) ∧ w'.cell? ⟨gb489, 2, none⟩ = some (.int .u8 ((rd_T37 l0 x5_1).f2)) ∧ w'.cell? ⟨gb489, 3, none⟩ = some (.int .i16 ((rd_T37 l0 x5_1).f3)) ∧ w'.cell? ⟨gb489, 4, none⟩ = some (.int .i32 ((rd_T37 l0 x5_1).f4))) (ds := []) (fl 0 9) (by kernel_rfl) rfl rfl ⟨(blk_cell BK496.out 0).trans rfl, (blk_cell BK496.out 1).trans rfl, (blk_cell BK496.out 2).trans rfl, (blk_cell BK496.out 3).trans rfl, (blk_cell BK496.out 4).trans rfl, (blk_cell BK489.out 0).trans rfl, (blk_cell BK489.out 1).trans rfl, (blk_cell BK489.out 2).trans rfl, (blk_cell BK489.out 3).trans rfl, (blk_cell BK489.out 4).trans rfl⟩ (fun hHeld => ?_); refine with_tabW stockaderef03_Print.tab20 stockaderef03_Print.bits20 (fun HT_ HW_ => ?_)
          generalize w77.drew = w78 at BK489 BK496 HB hHeld ⊢
          refine pure_ (i := 0) (N := some 75) (v := ?_) (a' := ?_) (fl 1 8) rfl rfl (any_of HT_.out (by kernel_rfl)) (fun _ _ _ h => h) (Or.inl ⟨by rfl, ?_⟩) ?_ ?_
          rotate_left; exact ga_; rotate_left; exact gb_
          refine pure_ (i := 4) (N := some 79) (v := ?_) (a' := ?_) (fm 9 17) rfl rfl (any_of HT_.out (by kernel_rfl)) (fun _ _ _ h => h) (Or.inl ⟨by rfl, ?_⟩) ?_ ?_
          rotate_left; exact ga_; rotate_left; exact gb_
          refine take_ (i := 1) (N := some 76) (v := ?_) (a' := ?_) (fm 9 19) rfl rfl (take_ofW HT_.out HW_.out (by kernel_rfl)) (fun _ _ _ h => h) (Or.inl ⟨by rfl, ?_⟩) hHeld ?_ ?_
          rotate_left
          ·rintro w' ⟨s0, s1, s2, s3, s4, s5, s6, s7, s8, s9⟩
           go_simp
           with_reducible rfl
          rotate_left; exact gb_
          refine take_ (i := 3) (N := some 78) (v := ?_) (a' := ?_) (fm 9 27) rfl rfl (take_ofW HT_.out HW_.out (by kernel_rfl)) (fun _ _ _ h => h) (Or.inl ⟨by rfl, ?_⟩) hHeld ?_ ?_
          rotate_left
          ·rintro w' ⟨s0, s1, s2, s3, s4, s5, s6, s7, s8, s9⟩
           go_simp
           with_reducible rfl
          rotate_left; exact gb_
          refine one_ (i := 2) (N := some 77) (fl 5 4) rfl rfl (one_of HT_.out (by kernel_rfl)) (by decide) (fun K hK => ?_)
          refine goes_ Tryd.func21 (by kernel_rfl) rfl #[.agg #[.int .i64 t490, .int .i64 t491, .int .i64 t492, .bool t493, .bool t494]] (by rfl) rfl rfl (by (try simp only [List.map_toArray, List.map_cons, List.map_nil]); first | done | rfl | (simp only [List.length_drop, List.length_take]; rfl)) ?_
          with_reducible refine (stockaderef03_Pattern.calls k1 t490 t491 t492 t493 t494 t501 _ A67.out).mono ?_
          rintro e w79 ⟨rfl, hb⟩
          refine ⟨_, rfl, ?_⟩
          have n0_ := Aside0.mk (blk_below (g := gb489) (o := .cells #[.int .u8 ((rd_T37 l0 x5_1).f0), .int .u8 ((rd_T37 l0 x5_1).f1), .int .u8 ((rd_T37 l0 x5_1).f2), .int .i16 ((rd_T37 l0 x5_1).f3), .int .i32 ((rd_T37 l0 x5_1).f4)] 37 (0, 0)) bk_now hb)
          have n1_ := Aside0.mk (blk_below (g := gb496) (o := .cells #[.int .i64 t490, .int .i64 t491, .int .i64 t492, .bool t493, .bool t494] 59 (0, 0)) bk_now hb)
          have n2_ := Aside0.mk (below_step b_now hb)
          clear BK489
          clear BK496
          clear HB
          have BK489 := n0_
          have BK496 := n1_
          have HB := n2_
          clear n0_ n1_ n2_
          (try clear hb)
          (try clear hb2)
          (try clear hk)
          (try clear hi)
          refine hK.out _ _ ⟨(blk_cell BK496.out 0).trans rfl, (blk_cell BK496.out 1).trans rfl, (blk_cell BK496.out 2).trans rfl, (blk_cell BK496.out 3).trans rfl, (blk_cell BK496.out 4).trans rfl, (blk_cell BK489.out 0).trans rfl, (blk_cell BK489.out 1).trans rfl, (blk_cell BK489.out 2).trans rfl, (blk_cell BK489.out 3).trans rfl, (blk_cell BK489.out 4).trans rfl⟩ (fun hHeld => ?_)
          clear hK K
          refine norm_ (a' := ?_) ?_ ?_
          rotate_left
          ·show Act.put _ (some 77) _ = _
           simp only [Act.put, List.setIfInBounds_toArray, List.set_cons_zero, List.set_cons_succ, i64_w, i32_w]
           rfl
          refine one_ (i := 5) (N := some 80) (fl 6 3) rfl rfl (one_of HT_.out (by kernel_rfl)) (by decide) (fun K hK => ?_)
          refine goes_ Tryd.func20 (by kernel_rfl) rfl #[.string t501, .agg #[.int .u8 ((rd_T37 l0 x5_1).f0), .int .u8 ((rd_T37 l0 x5_1).f1), .int .u8 ((rd_T37 l0 x5_1).f2), .int .i16 ((rd_T37 l0 x5_1).f3), .int .i32 ((rd_T37 l0 x5_1).f4)], .int .i32 0] (by rfl) rfl rfl (by (try simp only [List.map_toArray, List.map_cons, List.map_nil]); first | done | rfl | (simp only [List.length_drop, List.length_take]; rfl)) ?_
          with_reducible refine (stockaderef03_fill.calls k1 t501 ((rd_T37 l0 x5_1).f0) ((rd_T37 l0 x5_1).f1) ((rd_T37 l0 x5_1).f2) ((rd_T37 l0 x5_1).f3) ((rd_T37 l0 x5_1).f4) 0 t502 _ A68.out).mono ?_
          rintro e w80 ⟨rfl, hb⟩
          refine ⟨_, rfl, ?_⟩
          have n0_ := Aside0.mk (blk_below (g := gb489) (o := .cells #[.int .u8 ((rd_T37 l0 x5_1).f0), .int .u8 ((rd_T37 l0 x5_1).f1), .int .u8 ((rd_T37 l0 x5_1).f2), .int .i16 ((rd_T37 l0 x5_1).f3), .int .i32 ((rd_T37 l0 x5_1).f4)] 37 (0, 0)) bk_now hb)
          have n1_ := Aside0.mk (blk_below (g := gb496) (o := .cells #[.int .i64 t490, .int .i64 t491, .int .i64 t492, .bool t493, .bool t494] 59 (0, 0)) bk_now hb)
          have n2_ := Aside0.mk (below_step b_now hb)
          clear BK489
          clear BK496
          clear HB
          have BK489 := n0_
          have BK496 := n1_
          have HB := n2_
          clear n0_ n1_ n2_
          (try clear hb)
          (try clear hb2)
          (try clear hk)
          (try clear hi)
          refine hK.out _ _ ⟨(blk_cell BK496.out 0).trans rfl, (blk_cell BK496.out 1).trans rfl, (blk_cell BK496.out 2).trans rfl, (blk_cell BK496.out 3).trans rfl, (blk_cell BK496.out 4).trans rfl, (blk_cell BK489.out 0).trans rfl, (blk_cell BK489.out 1).trans rfl, (blk_cell BK489.out 2).trans rfl, (blk_cell BK489.out 3).trans rfl, (blk_cell BK489.out 4).trans rfl⟩ (fun hHeld => ?_)
          clear hK K
          refine norm_ (a' := ?_) ?_ ?_
          rotate_left
          ·show Act.put _ (some 80) _ = _
           simp only [Act.put, List.setIfInBounds_toArray, List.set_cons_zero, List.set_cons_succ, i64_w, i32_w]
           rfl
          refine pure_ (i := 6) (N := some 81) (v := ?_) (a' := ?_) (fl 7 2) rfl rfl (any_of HT_.out (by kernel_rfl)) (fun _ _ _ h => h) (Or.inl ⟨by rfl, ?_⟩) ?_ ?_
          rotate_left; exact ga_; rotate_left; exact gb_
          refine pure_ (i := 7) (N := some 82) (v := ?_) (a' := ?_) (fl 8 1) rfl rfl (any_of HT_.out (by kernel_rfl)) (fun _ _ _ h => h) (Or.inl ⟨by rfl, ?_⟩) ?_ ?_
          rotate_left; exact ga_; rotate_left; exact gb_
          refine pure_ (i := 8) (N := some 4) (v := ?_) (a' := ?_) (fl 9 0) rfl rfl (any_of HT_.out (by kernel_rfl)) (fun _ _ _ h => h) (Or.inl ⟨by rfl, ?_⟩) ?_ ?_
          rotate_left; exact ga_; rotate_left; exact gb_
          refine done_ (done_of HT_.out (by kernel_rfl)) ?_
          try go_wp2
          go_roundg k1
          case measure => have := HK1.out; omega
          case rel => exact ⟨((x4_1 ++ t502) ++ (⟨#[10]⟩ : ByteArray)), (wrap64 (x5_1 + 1)), eq_now, eq_now, H', ⟨by have := HK1.out; omega⟩, ⟨b_now⟩⟩
         ·rw [if_neg c70] at H
          exact absurd H (by simp)
        ·rw [if_neg c69] at H
         exact absurd H (by simp)
      ·rw [if_neg c6] at H
       obtain ⟨c6b0, c6b1⟩ := eqF c6
       obtain ⟨rfl, rfl⟩ := pi2 H
       have p488 : 0 ≤ (x5_1 : Int) := od_
       have q488 : x5_1 < (l0.length : Int) := od_
       obtain ⟨ad488, e488, hx488_0, hx488_1, hx488_2, hx488_3, hx488_4⟩ := at_T37 HR0.out x5_1 p488 q488
       cases e488
       replace hx488_0 := (HB.out.cell (World.block_lt_of_cell? w _ hx488_0)).trans hx488_0
       replace hx488_1 := (HB.out.cell (World.block_lt_of_cell? w _ hx488_1)).trans hx488_1
       replace hx488_2 := (HB.out.cell (World.block_lt_of_cell? w _ hx488_2)).trans hx488_2
       replace hx488_3 := (HB.out.cell (World.block_lt_of_cell? w _ hx488_3)).trans hx488_3
       replace hx488_4 := (HB.out.cell (World.block_lt_of_cell? w _ hx488_4)).trans hx488_4
       replace p488 := eq_true p488
       replace q488 := eq_true q488
       go_wp2_with (first | ((with_reducible refine gate_dst (N := 6) rfl ?_); refine sh_box 6 #[.int .u8 0, .int .u8 0, .int .u8 0, .int .i16 0, .int .i32 0] 37 ?_; intro gb489 hg w81 hbox hb; have GE489 := sh_z (w := w) hg; replace HB := sh_b (w := w) hb; have BK489 := Aside0.mk (hbox); clear hb hbox hg; have hcz82 := blk_all5 BK489.out) | ((with_reducible refine gate_callee (f := 19) rfl ?_); refine sh_call (some 26) Tryd.func19 #[.agg #[.int .u8 ((rd_T37 l0 x5_1).f0), .int .u8 ((rd_T37 l0 x5_1).f1), .int .u8 ((rd_T37 l0 x5_1).f2), .int .i16 ((rd_T37 l0 x5_1).f3), .int .i32 ((rd_T37 l0 x5_1).f4)]] ?_; (with_reducible refine (stockaderef02_Of.calls k1 ((rd_T37 l0 x5_1).f0) ((rd_T37 l0 x5_1).f1) ((rd_T37 l0 x5_1).f2) ((rd_T37 l0 x5_1).f3) ((rd_T37 l0 x5_1).f4) t490 t491 t492 t493 t494 t495 _ A5.out).mono ?_); rintro e w83 ⟨rfl, hb⟩; refine ⟨_, rfl, ?_⟩; replace BK489 := sh_kp (g := gb489) (t := 37) #[.int .u8 ((rd_T37 l0 x5_1).f0), .int .u8 ((rd_T37 l0 x5_1).f1), .int .u8 ((rd_T37 l0 x5_1).f2), .int .i16 ((rd_T37 l0 x5_1).f3), .int .i32 ((rd_T37 l0 x5_1).f4)] hb; replace HB := sh_b (w := w) hb; (try clear hb); (try clear hb2); (try clear hk); (try clear hi)) | ((with_reducible refine gate_dst (N := 7) rfl ?_); refine sh_box 7 #[.int .i64 0, .int .i64 0, .int .i64 0, .bool false, .bool false] 59 ?_; intro gb496 hg w84 hbox hb; have GW496 := sh_z (w := w) hg; have GE496 := sh_z (w := w) hg; have NB489_496 := sh_n BK489 hg; have NB496_489 := sh_s NB489_496; replace BK489 := sh_k BK489 hb; replace HB := sh_b (w := w) hb; have BK496 := Aside0.mk (hbox); clear hb hbox hg; obtain ⟨hnb85, hnc85⟩ := nb_ NB496_489; have hcz86 := blk_all5 BK496.out))
       go_ret2
       exact ⟨ret_now, b_now⟩
     ·rw [if_neg c4] at H
      exact absurd H (by simp)
    ·rw [if_neg c3] at H
     have c3b0 : decide (x5_1 < (l0.length : Int)) = false := decide_eq_false c3
     clear c3
     obtain ⟨rfl, rfl⟩ := pi2 H
     go_wp2
     go_ret2
     exact ⟨ret_now, b_now⟩

end Go.Proofs.YtondogoepcndiaaDoor.P
