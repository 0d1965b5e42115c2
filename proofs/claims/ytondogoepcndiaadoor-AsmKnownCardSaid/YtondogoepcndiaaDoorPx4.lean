/- Made by this session's driver over the kit's printer: for each Go function a Lean function with the same answers, and a proof that the Go call comes to these answers; no conditions but the ones each theorem names. -/
import Derived.Test.YtondogoepcndiaaDoorPx0
namespace Go.Proofs.YtondogoepcndiaaDoor.P
open Go.RowKit Go.Proofs.YtondogoepcndiaaDoorW.PrintWords Go.Proofs.YtondogoepcndiaaDoorW.PrintLast Go.Proofs.YtondogoepcndiaaDoorW.PrintMore
attribute [local go_sem] max2_int min2_int max_two min_two max_three min_three max_four min_four   -- for this text's walks alone
set_option linter.unusedVariables false
set_option linter.unusedSimpArgs false

/-! ### insn_cond: function 59 -/
def insn_cond.f (a0 : Int) : Option (Bool) := if a0 ≥ 1 then (if a0 ≤ 7 then (some true) else (if a0 ≥ 10 then (some (decide (a0 ≤ 13))) else (some false))) else (if a0 ≥ 10 then (some (decide (a0 ≤ 13))) else (some false))
set_option maxHeartbeats 8000000 in
set_option maxRecDepth 100000 in
theorem insn_cond.calls (a0 : Int) (r : Bool) (w : World) (h : insn_cond.f a0 = some r) :
  Calls Tryd.prog 59 #[.int .i64 a0] w fun e w' => e = .returned (.bool r) ∧ Drawn0 w w' := by
 have H : (if a0 ≥ 1 then (if a0 ≤ 7 then (some true) else (if a0 ≥ 10 then (some (decide (a0 ≤ 13))) else (some false))) else (if a0 ≥ 10 then (some (decide (a0 ≤ 13))) else (some false))) = some r := h
 clear h
 by_cases c2 : a0 ≥ 1
 ·rw [if_pos c2] at H
  have c2b0 : decide (1 ≤ a0) = true := decide_eq_true c2
  clear c2
  by_cases c3 : a0 ≤ 7
  ·rw [if_pos c3] at H
   have c3b0 : decide (a0 ≤ 7) = true := decide_eq_true c3
   clear c3
   obtain rfl := Option.some.inj H
   go_enter Tryd.func59, Tryd.ntmps59
   go_wp2
   go_ret
   exact ⟨by first | rfl | (simp; done) | (simp [*]; done), by repeat (first | exact Drawn0.refl _ | apply Drawn0.step)⟩
  ·rw [if_neg c3] at H
   have c3b0 : decide (a0 ≤ 7) = false := decide_eq_false c3
   clear c3
   by_cases c4 : a0 ≥ 10
   ·rw [if_pos c4] at H
    have c4b0 : decide (10 ≤ a0) = true := decide_eq_true c4
    clear c4
    obtain rfl := Option.some.inj H
    go_enter Tryd.func59, Tryd.ntmps59
    go_wp2
    go_ret
    exact ⟨by first | rfl | (simp; done) | (simp [*]; done), by repeat (first | exact Drawn0.refl _ | apply Drawn0.step)⟩
   ·rw [if_neg c4] at H
    have c4b0 : decide (10 ≤ a0) = false := decide_eq_false c4
    clear c4
    obtain rfl := Option.some.inj H
    go_enter Tryd.func59, Tryd.ntmps59
    go_wp2
    go_ret
    exact ⟨by first | rfl | (simp; done) | (simp [*]; done), by repeat (first | exact Drawn0.refl _ | apply Drawn0.step)⟩
 ·rw [if_neg c2] at H
  have c2b0 : decide (1 ≤ a0) = false := decide_eq_false c2
  clear c2
  by_cases c5 : a0 ≥ 10
  ·rw [if_pos c5] at H
   have c5b0 : decide (10 ≤ a0) = true := decide_eq_true c5
   clear c5
   obtain rfl := Option.some.inj H
   go_enter Tryd.func59, Tryd.ntmps59
   go_wp2
   go_ret
   exact ⟨by first | rfl | (simp; done) | (simp [*]; done), by repeat (first | exact Drawn0.refl _ | apply Drawn0.step)⟩
  ·rw [if_neg c5] at H
   have c5b0 : decide (10 ≤ a0) = false := decide_eq_false c5
   clear c5
   obtain rfl := Option.some.inj H
   go_enter Tryd.func59, Tryd.ntmps59
   go_wp2
   go_ret
   exact ⟨by first | rfl | (simp; done) | (simp [*]; done), by repeat (first | exact Drawn0.refl _ | apply Drawn0.step)⟩

/-! ### insn_jump: function 45 -/
def insn_jump.f (a0 : Int) (a1 : Int) (a2 : Bool) : Option (Int × Int × Int × Bool × Bool) := (insn_cond.f a1).bind fun t102 => (if t102 = true then (some (6, a1, 0, ((Go.bits .and .u8 a0 7) == 5), a2)) else (if a0 = 5 then (some (7, 0, 0, false, false)) else (if a0 = 133 then (some (8, 0, 0, false, false)) else (if a0 = 149 then (some (9, 0, 0, false, false)) else (some (0, 0, 0, false, false))))))
set_option maxHeartbeats 8000000 in
set_option maxRecDepth 100000 in
theorem insn_jump.calls (a0 : Int) (a1 : Int) (a2 : Bool) (r1 : Int) (r2 : Int) (r3 : Int) (r4 : Bool) (r5 : Bool) (w : World) (h : insn_jump.f a0 a1 a2 = some (r1, r2, r3, r4, r5)) :
  Calls Tryd.prog 45 #[.int .u8 a0, .int .i64 a1, .bool a2] w fun e w' => e = .returned (.agg #[.int .i64 r1, .int .i64 r2, .int .i64 r3, .bool r4, .bool r5]) ∧ Below w.heap.size w w' := by
 have hu49 := Tryd.underlying49
 have HB := Aside0.mk (Below.refl w.heap.size w)
 have H : ((insn_cond.f a1).bind fun t102 => (if t102 = true then (some (6, a1, 0, ((Go.bits .and .u8 a0 7) == 5), a2)) else (if a0 = 5 then (some (7, 0, 0, false, false)) else (if a0 = 133 then (some (8, 0, 0, false, false)) else (if a0 = 149 then (some (9, 0, 0, false, false)) else (some (0, 0, 0, false, false))))))) = some (r1, r2, r3, r4, r5) := h
 clear h
 obtain ⟨t102, A4, H⟩ := bs_ H; try dsimp only at H
 by_cases c5 : t102 = true
 ·subst c5
  replace H := sh_t H
  obtain ⟨rfl, rfl, rfl, rfl, rfl⟩ := pi5 H
  go_enter Tryd.func45, Tryd.ntmps45
  go_wp2_with (first | ((with_reducible refine gate_dst (N := 6) rfl ?_); refine sh_box 6 #[.int .i64 0, .int .i64 0, .int .i64 0, .bool false, .bool false] 49 ?_; intro gb101 hg w6 hbox hb; have GE101 := sh_z (w := w) hg; replace HB := sh_b (w := w) hb; have BK101 := Aside0.mk (hbox); clear hb hbox hg) | ((with_reducible refine gate_callee (f := 59) rfl ?_); refine sh_call (some 9) Tryd.func59 #[.int .i64 a1] ?_; (with_reducible refine (insn_cond.calls a1 true _ A4.out).mono ?_); rintro e w' ⟨rfl, ⟨nd, rfl⟩⟩; refine ⟨_, rfl, ?_⟩; (try (rw [drewN_self w6]; generalize hq_ : World.drewN w6 _ = w6; have n0_ : Aside0 (w6.heap[gb101]? = some (.cells #[.int .i64 0, .int .i64 0, .int .i64 0, .bool false, .bool false] 49 (0, 0))) := ⟨by rw [← hq_]; exact bk_now⟩; have n1_ : Aside0 (Below w.heap.size w w6) := ⟨by rw [← hq_]; exact b_now⟩; clear BK101 HB hq_; have BK101 := n0_; have HB := n1_; clear n0_ n1_)); have hcz7 := blk_all5 BK101.out))
  refine bodyPost_ret (results_cell_row rfl _ _ gb101 49 #[.int .i64 6, .int .i64 a1, .int .i64 0, .bool ((Go.bits .and .u8 a0 7) == 5), .bool a2] (0, 0) _ rfl bk_now Tryd.underlying49 rfl (by kernel_rfl)) rfl ?_
  exact ⟨ret_now, b_now⟩
 ·replace c5 := Bool.eq_false_iff.mpr c5
  subst c5
  replace H := sh_f H
  by_cases c8 : a0 = 5
  ·rw [if_pos c8] at H
   obtain ⟨c8b0, c8b1⟩ := eqT c8
   clear c8
   obtain ⟨rfl, rfl, rfl, rfl, rfl⟩ := pi5 H
   go_enter Tryd.func45, Tryd.ntmps45
   go_wp2_with (first | ((with_reducible refine gate_dst (N := 6) rfl ?_); refine sh_box 6 #[.int .i64 0, .int .i64 0, .int .i64 0, .bool false, .bool false] 49 ?_; intro gb101 hg w9 hbox hb; have GE101 := sh_z (w := w) hg; replace HB := sh_b (w := w) hb; have BK101 := Aside0.mk (hbox); clear hb hbox hg) | ((with_reducible refine gate_callee (f := 59) rfl ?_); refine sh_call (some 9) Tryd.func59 #[.int .i64 a1] ?_; (with_reducible refine (insn_cond.calls a1 false _ A4.out).mono ?_); rintro e w' ⟨rfl, ⟨nd, rfl⟩⟩; refine ⟨_, rfl, ?_⟩; (try (rw [drewN_self w9]; generalize hq_ : World.drewN w9 _ = w9; have n0_ : Aside0 (w9.heap[gb101]? = some (.cells #[.int .i64 0, .int .i64 0, .int .i64 0, .bool false, .bool false] 49 (0, 0))) := ⟨by rw [← hq_]; exact bk_now⟩; have n1_ : Aside0 (Below w.heap.size w w9) := ⟨by rw [← hq_]; exact b_now⟩; clear BK101 HB hq_; have BK101 := n0_; have HB := n1_; clear n0_ n1_)); have hcz10 := blk_all5 BK101.out))
   refine bodyPost_ret (results_cell_row rfl _ _ gb101 49 #[.int .i64 7, .int .i64 0, .int .i64 0, .bool false, .bool false] (0, 0) _ rfl bk_now Tryd.underlying49 rfl (by kernel_rfl)) rfl ?_
   exact ⟨ret_now, b_now⟩
  ·rw [if_neg c8] at H
   obtain ⟨c8b0, c8b1⟩ := eqF c8
   by_cases c11 : a0 = 133
   ·rw [if_pos c11] at H
    obtain ⟨c11b0, c11b1⟩ := eqT c11
    clear c11
    obtain ⟨rfl, rfl, rfl, rfl, rfl⟩ := pi5 H
    go_enter Tryd.func45, Tryd.ntmps45
    go_wp2_with (first | ((with_reducible refine gate_dst (N := 6) rfl ?_); refine sh_box 6 #[.int .i64 0, .int .i64 0, .int .i64 0, .bool false, .bool false] 49 ?_; intro gb101 hg w12 hbox hb; have GE101 := sh_z (w := w) hg; replace HB := sh_b (w := w) hb; have BK101 := Aside0.mk (hbox); clear hb hbox hg) | ((with_reducible refine gate_callee (f := 59) rfl ?_); refine sh_call (some 9) Tryd.func59 #[.int .i64 a1] ?_; (with_reducible refine (insn_cond.calls a1 false _ A4.out).mono ?_); rintro e w' ⟨rfl, ⟨nd, rfl⟩⟩; refine ⟨_, rfl, ?_⟩; (try (rw [drewN_self w12]; generalize hq_ : World.drewN w12 _ = w12; have n0_ : Aside0 (w12.heap[gb101]? = some (.cells #[.int .i64 0, .int .i64 0, .int .i64 0, .bool false, .bool false] 49 (0, 0))) := ⟨by rw [← hq_]; exact bk_now⟩; have n1_ : Aside0 (Below w.heap.size w w12) := ⟨by rw [← hq_]; exact b_now⟩; clear BK101 HB hq_; have BK101 := n0_; have HB := n1_; clear n0_ n1_)); have hcz13 := blk_all5 BK101.out))
    refine bodyPost_ret (results_cell_row rfl _ _ gb101 49 #[.int .i64 8, .int .i64 0, .int .i64 0, .bool false, .bool false] (0, 0) _ rfl bk_now Tryd.underlying49 rfl (by kernel_rfl)) rfl ?_
    exact ⟨ret_now, b_now⟩
   ·rw [if_neg c11] at H
    obtain ⟨c11b0, c11b1⟩ := eqF c11
    by_cases c14 : a0 = 149
    ·rw [if_pos c14] at H
     obtain ⟨c14b0, c14b1⟩ := eqT c14
     clear c14
     obtain ⟨rfl, rfl, rfl, rfl, rfl⟩ := pi5 H
     go_enter Tryd.func45, Tryd.ntmps45
     go_wp2_with (first | ((with_reducible refine gate_dst (N := 6) rfl ?_); refine sh_box 6 #[.int .i64 0, .int .i64 0, .int .i64 0, .bool false, .bool false] 49 ?_; intro gb101 hg w15 hbox hb; have GE101 := sh_z (w := w) hg; replace HB := sh_b (w := w) hb; have BK101 := Aside0.mk (hbox); clear hb hbox hg) | ((with_reducible refine gate_callee (f := 59) rfl ?_); refine sh_call (some 9) Tryd.func59 #[.int .i64 a1] ?_; (with_reducible refine (insn_cond.calls a1 false _ A4.out).mono ?_); rintro e w' ⟨rfl, ⟨nd, rfl⟩⟩; refine ⟨_, rfl, ?_⟩; (try (rw [drewN_self w15]; generalize hq_ : World.drewN w15 _ = w15; have n0_ : Aside0 (w15.heap[gb101]? = some (.cells #[.int .i64 0, .int .i64 0, .int .i64 0, .bool false, .bool false] 49 (0, 0))) := ⟨by rw [← hq_]; exact bk_now⟩; have n1_ : Aside0 (Below w.heap.size w w15) := ⟨by rw [← hq_]; exact b_now⟩; clear BK101 HB hq_; have BK101 := n0_; have HB := n1_; clear n0_ n1_)); have hcz16 := blk_all5 BK101.out))
     refine bodyPost_ret (results_cell_row rfl _ _ gb101 49 #[.int .i64 9, .int .i64 0, .int .i64 0, .bool false, .bool false] (0, 0) _ rfl bk_now Tryd.underlying49 rfl (by kernel_rfl)) rfl ?_
     exact ⟨ret_now, b_now⟩
    ·rw [if_neg c14] at H
     obtain ⟨c14b0, c14b1⟩ := eqF c14
     obtain ⟨rfl, rfl, rfl, rfl, rfl⟩ := pi5 H
     go_enter Tryd.func45, Tryd.ntmps45
     go_wp2_with (first | ((with_reducible refine gate_dst (N := 6) rfl ?_); refine sh_box 6 #[.int .i64 0, .int .i64 0, .int .i64 0, .bool false, .bool false] 49 ?_; intro gb101 hg w17 hbox hb; have GE101 := sh_z (w := w) hg; replace HB := sh_b (w := w) hb; have BK101 := Aside0.mk (hbox); clear hb hbox hg) | ((with_reducible refine gate_callee (f := 59) rfl ?_); refine sh_call (some 9) Tryd.func59 #[.int .i64 a1] ?_; (with_reducible refine (insn_cond.calls a1 false _ A4.out).mono ?_); rintro e w' ⟨rfl, ⟨nd, rfl⟩⟩; refine ⟨_, rfl, ?_⟩; (try (rw [drewN_self w17]; generalize hq_ : World.drewN w17 _ = w17; have n0_ : Aside0 (w17.heap[gb101]? = some (.cells #[.int .i64 0, .int .i64 0, .int .i64 0, .bool false, .bool false] 49 (0, 0))) := ⟨by rw [← hq_]; exact bk_now⟩; have n1_ : Aside0 (Below w.heap.size w w17) := ⟨by rw [← hq_]; exact b_now⟩; clear BK101 HB hq_; have BK101 := n0_; have HB := n1_; clear n0_ n1_)); have hcz18 := blk_all5 BK101.out))
     refine bodyPost_ret (results_cell_row rfl _ _ gb101 49 #[.int .i64 0, .int .i64 0, .int .i64 0, .bool false, .bool false] (0, 0) _ rfl bk_now Tryd.underlying49 rfl (by kernel_rfl)) rfl ?_
     exact ⟨ret_now, b_now⟩

/-! ### insn_kind: function 25 -/
mutual
def insn_kind.j0 : Nat → Int → Bool → Int → Bool → Int → Int → Int → Int → Int → Option (Int × Int × Int × Bool × Bool)
 | 0, _, _, _, _, _, _, _, _, _ => none
 | k + 1, x3, x4, x16, x17, x104000, x104001, x104002, x104003, x104004 => if x17 = true then (if x104000 = 215 then (if x104004 = 16 then (insn_kind.j1 k x3 x4 true x104000 x104001 x104002 x104003 x104004) else (if x104004 = 32 then (insn_kind.j1 k x3 x4 true x104000 x104001 x104002 x104003 x104004) else (insn_kind.j1 k x3 x4 (x104004 == 64) x104000 x104001 x104002 x104003 x104004))) else (insn_kind.j1 k x3 x4 false x104000 x104001 x104002 x104003 x104004)) else (if x16 = 5 then (insn_kind.j2 k x3 x4 x16 (x16 == 5) x104000 x104001 x104002 x104003 x104004) else (insn_kind.j2 k x3 x4 x16 (x16 == 6) x104000 x104001 x104002 x104003 x104004))
def insn_kind.j1 : Nat → Int → Bool → Bool → Int → Int → Int → Int → Int → Option (Int × Int × Int × Bool × Bool)
 | 0, _, _, _, _, _, _, _, _ => none
 | k + 1, x3, x4, x37, x104000, x104001, x104002, x104003, x104004 => if x37 = true then (some (2, 0, wrap64 (Int.tdiv (wrap64 (x104004)) 8), false, false)) else (if x3 ≤ 12 then (if x3 = 8 then (if x4 = true then (some (0, 0, 0, false, false)) else (some (1, x3, 0, ((Go.bits .and .u8 x104000 7) == 7), x4))) else (some (1, x3, 0, ((Go.bits .and .u8 x104000 7) == 7), x4))) else (some (0, 0, 0, false, false)))
def insn_kind.j2 : Nat → Int → Bool → Int → Bool → Int → Int → Int → Int → Int → Option (Int × Int × Int × Bool × Bool)
 | 0, _, _, _, _, _, _, _, _, _ => none
 | k + 1, x3, x4, x16, x60, x104000, x104001, x104002, x104003, x104004 => if x60 = true then ((insn_jump.f x104000 x3 x4).bind fun bt105 => (some (bt105.1, bt105.2.1, bt105.2.2.1, bt105.2.2.2.1, bt105.2.2.2.2))) else (if x16 = 1 then (insn_kind.j3 k x16 (x16 == 1) x104000 x104001 x104002 x104003 x104004) else (if x16 = 2 then (insn_kind.j3 k x16 (x16 == 2) x104000 x104001 x104002 x104003 x104004) else (insn_kind.j3 k x16 (x16 == 3) x104000 x104001 x104002 x104003 x104004)))
def insn_kind.j3 : Nat → Int → Bool → Int → Int → Int → Int → Int → Option (Int × Int × Int × Bool × Bool)
 | 0, _, _, _, _, _, _, _ => none
 | k + 1, x16, x68, x104000, x104001, x104002, x104003, x104004 => if x68 = true then (if (x104000 / 32) = 3 then (if 0 ≤ (Go.bits .and .u8 x104000 3) then (if (Go.bits .and .u8 x104000 3) < 4 then (if 0 ≤ (Go.bits .and .u8 (x104000 / 8) 3) then (if (Go.bits .and .u8 (x104000 / 8) 3) < 4 then (some (rdOf (0 : Int) ([0, 3, 5, 4] : List Int) (Go.bits .and .u8 x104000 3), 0, rd gl2 (Go.bits .and .u8 (x104000 / 8) 3), false, false)) else (none)) else (none)) else (none)) else (none)) else (some (0, 0, 0, false, false))) else (if x16 = 0 then (if x104000 = 24 then (if x104002 < 2 then (some (wrap64 (10 + (wrap64 (x104002))), 0, 0, false, false)) else (some (0, 0, 0, false, false))) else (some (0, 0, 0, false, false))) else (some (0, 0, 0, false, false)))
end
def insn_kind.f (k : Nat) (a0_0 : Int) (a0_1 : Int) (a0_2 : Int) (a0_3 : Int) (a0_4 : Int) : Option (Int × Int × Int × Bool × Bool) := if (Go.bits .and .u8 a0_0 7) = 4 then (insn_kind.j0 k (wrap64 (a0_0 / 16)) ((Go.bits .and .u8 a0_0 8) != 0) (Go.bits .and .u8 a0_0 7) ((Go.bits .and .u8 a0_0 7) == 4) a0_0 a0_1 a0_2 a0_3 a0_4) else (insn_kind.j0 k (wrap64 (a0_0 / 16)) ((Go.bits .and .u8 a0_0 8) != 0) (Go.bits .and .u8 a0_0 7) ((Go.bits .and .u8 a0_0 7) == 7) a0_0 a0_1 a0_2 a0_3 a0_4)
theorem insn_kind.mono_l : ∀ k, (∀ y0 y1 y2 y3 y4 y5 y6 y7 y8, LeO (insn_kind.j0 k y0 y1 y2 y3 y4 y5 y6 y7 y8) (insn_kind.j0 (k + 1) y0 y1 y2 y3 y4 y5 y6 y7 y8)) ∧ (∀ y0 y1 y2 y3 y4 y5 y6 y7, LeO (insn_kind.j1 k y0 y1 y2 y3 y4 y5 y6 y7) (insn_kind.j1 (k + 1) y0 y1 y2 y3 y4 y5 y6 y7)) ∧ (∀ y0 y1 y2 y3 y4 y5 y6 y7 y8, LeO (insn_kind.j2 k y0 y1 y2 y3 y4 y5 y6 y7 y8) (insn_kind.j2 (k + 1) y0 y1 y2 y3 y4 y5 y6 y7 y8)) ∧ (∀ y0 y1 y2 y3 y4 y5 y6, LeO (insn_kind.j3 k y0 y1 y2 y3 y4 y5 y6) (insn_kind.j3 (k + 1) y0 y1 y2 y3 y4 y5 y6))
 | 0 => ⟨fun _ _ _ _ _ _ _ _ _ r h => by simp [insn_kind.j0] at h, fun _ _ _ _ _ _ _ _ r h => by simp [insn_kind.j1] at h, fun _ _ _ _ _ _ _ _ _ r h => by simp [insn_kind.j2] at h, fun _ _ _ _ _ _ _ r h => by simp [insn_kind.j3] at h⟩
 | k + 1 => by
  obtain ⟨ih0, ih1, ih2, ih3⟩ := insn_kind.mono_l k
  refine ⟨?_, ?_, ?_, ?_⟩
  ·intro y0 y1 y2 y3 y4 y5 y6 y7 y8
   unfold insn_kind.j0
   repeat' first
   | (with_reducible exact ih0 _ _ _ _ _ _ _ _ _)
   | (with_reducible exact ih1 _ _ _ _ _ _ _ _)
   | (with_reducible exact ih2 _ _ _ _ _ _ _ _ _)
   | (with_reducible exact ih3 _ _ _ _ _ _ _)
   | (with_reducible exact LeO.refl _)
   | (with_reducible exact LeO.none _)
   | (with_reducible refine LeO.ite ?_ ?_)
   | (with_reducible refine LeO.bind ?_ (fun _ => ?_))
   | refine LeO.ite ?_ ?_
   | refine LeO.bind ?_ (fun _ => ?_)
  ·intro y0 y1 y2 y3 y4 y5 y6 y7
   unfold insn_kind.j1
   repeat' first
   | (with_reducible exact ih0 _ _ _ _ _ _ _ _ _)
   | (with_reducible exact ih1 _ _ _ _ _ _ _ _)
   | (with_reducible exact ih2 _ _ _ _ _ _ _ _ _)
   | (with_reducible exact ih3 _ _ _ _ _ _ _)
   | (with_reducible exact LeO.refl _)
   | (with_reducible exact LeO.none _)
   | (with_reducible refine LeO.ite ?_ ?_)
   | (with_reducible refine LeO.bind ?_ (fun _ => ?_))
   | refine LeO.ite ?_ ?_
   | refine LeO.bind ?_ (fun _ => ?_)
  ·intro y0 y1 y2 y3 y4 y5 y6 y7 y8
   unfold insn_kind.j2
   repeat' first
   | (with_reducible exact ih0 _ _ _ _ _ _ _ _ _)
   | (with_reducible exact ih1 _ _ _ _ _ _ _ _)
   | (with_reducible exact ih2 _ _ _ _ _ _ _ _ _)
   | (with_reducible exact ih3 _ _ _ _ _ _ _)
   | (with_reducible exact LeO.refl _)
   | (with_reducible exact LeO.none _)
   | (with_reducible refine LeO.ite ?_ ?_)
   | (with_reducible refine LeO.bind ?_ (fun _ => ?_))
   | refine LeO.ite ?_ ?_
   | refine LeO.bind ?_ (fun _ => ?_)
  ·intro y0 y1 y2 y3 y4 y5 y6
   unfold insn_kind.j3
   repeat' first
   | (with_reducible exact ih0 _ _ _ _ _ _ _ _ _)
   | (with_reducible exact ih1 _ _ _ _ _ _ _ _)
   | (with_reducible exact ih2 _ _ _ _ _ _ _ _ _)
   | (with_reducible exact ih3 _ _ _ _ _ _ _)
   | (with_reducible exact LeO.refl _)
   | (with_reducible exact LeO.none _)
   | (with_reducible refine LeO.ite ?_ ?_)
   | (with_reducible refine LeO.bind ?_ (fun _ => ?_))
   | refine LeO.ite ?_ ?_
   | refine LeO.bind ?_ (fun _ => ?_)
theorem insn_kind.mono : ∀ a0 a1 a2 a3 a4 k, LeO (insn_kind.f k a0 a1 a2 a3 a4) (insn_kind.f (k + 1) a0 a1 a2 a3 a4) := by
 intro a0 a1 a2 a3 a4 k
 obtain ⟨ih0, ih1, ih2, ih3⟩ := insn_kind.mono_l k
 unfold insn_kind.f
 repeat' first
   | (with_reducible exact ih0 _ _ _ _ _ _ _ _ _)
   | (with_reducible exact ih1 _ _ _ _ _ _ _ _)
   | (with_reducible exact ih2 _ _ _ _ _ _ _ _ _)
   | (with_reducible exact ih3 _ _ _ _ _ _ _)
   | (with_reducible exact LeO.refl _)
   | (with_reducible exact LeO.none _)
   | (with_reducible refine LeO.ite ?_ ?_)
   | (with_reducible refine LeO.bind ?_ (fun _ => ?_))
   | refine LeO.ite ?_ ?_
   | refine LeO.bind ?_ (fun _ => ?_)
set_option maxHeartbeats 8000000 in
set_option maxRecDepth 100000 in
theorem insn_kind.calls (k : Nat) (a0_0 : Int) (a0_1 : Int) (a0_2 : Int) (a0_3 : Int) (a0_4 : Int) (r1 : Int) (r2 : Int) (r3 : Int) (r4 : Bool) (r5 : Bool) (w : World) (hrG2 : Kd.C (Kd.int .i64) w (some ⟨2, 0, none⟩) gl2.length gl2) (h : insn_kind.f k a0_0 a0_1 a0_2 a0_3 a0_4 = some (r1, r2, r3, r4, r5)) :
  Calls Tryd.prog 25 #[.agg #[.int .u8 a0_0, .int .u8 a0_1, .int .u8 a0_2, .int .i16 a0_3, .int .i32 a0_4]] w fun e w' => e = .returned (.agg #[.int .i64 r1, .int .i64 r2, .int .i64 r3, .bool r4, .bool r5]) ∧ Below w.heap.size w w' := by
 have hu37 := Tryd.underlying37
 have hu49 := Tryd.underlying49
 have HRG2 := Aside0.mk hrG2
 clear hrG2
 have HB := Aside0.mk (Below.refl w.heap.size w)
 have H : (if (Go.bits .and .u8 a0_0 7) = 4 then (insn_kind.j0 k (wrap64 (a0_0 / 16)) ((Go.bits .and .u8 a0_0 8) != 0) (Go.bits .and .u8 a0_0 7) ((Go.bits .and .u8 a0_0 7) == 4) a0_0 a0_1 a0_2 a0_3 a0_4) else (insn_kind.j0 k (wrap64 (a0_0 / 16)) ((Go.bits .and .u8 a0_0 8) != 0) (Go.bits .and .u8 a0_0 7) ((Go.bits .and .u8 a0_0 7) == 7) a0_0 a0_1 a0_2 a0_3 a0_4)) = some (r1, r2, r3, r4, r5) := h
 clear h
 have HC2 := Aside0.mk H
 clear H
 go_enter Tryd.func25, Tryd.ntmps25
 go_upto_if 17 with (first | ((with_reducible refine gate_dst (N := 1) rfl ?_); refine sh_box 1 #[.int .u8 a0_0, .int .u8 a0_1, .int .u8 a0_2, .int .i16 a0_3, .int .i32 a0_4] 37 ?_; intro gb103 hg w3 hbox hb; have GE103 := sh_z (w := w) hg; replace HB := sh_b (w := w) hb; have BK103 := Aside0.mk (hbox); clear hb hbox hg) | ((with_reducible refine gate_dst (N := 2) rfl ?_); refine sh_box 2 #[.int .i64 0, .int .i64 0, .int .i64 0, .bool false, .bool false] 49 ?_; intro gb104 hg w4 hbox hb; have GE104 := sh_z (w := w) hg; have NB103_104 := sh_n BK103 hg; have NB104_103 := sh_s NB103_104; replace BK103 := sh_k BK103 hb; replace HB := sh_b (w := w) hb; have BK104 := Aside0.mk (hbox); clear hb hbox hg; obtain ⟨hnb5, hnc5⟩ := nb_ NB103_104; have hcz6 := blk_all5 BK103.out))
 (try simp only [Act.put, List.setIfInBounds_toArray, List.set_cons_zero, List.set_cons_succ])
 go_cut [17] (fun v17 wc => ∃ (kq : Nat) (x17_1 : Bool), v17 = .bool x17_1 ∧ Aside0 (insn_kind.j0 kq (wrap64 (a0_0 / 16)) ((Go.bits .and .u8 a0_0 8) != 0) (Go.bits .and .u8 a0_0 7) x17_1 a0_0 a0_1 a0_2 a0_3 a0_4 = some (r1, r2, r3, r4, r5)) ∧ Aside0 (kq ≤ k) ∧ Aside0 (wc.heap[gb103]? = some (.cells #[.int .u8 a0_0, .int .u8 a0_1, .int .u8 a0_2, .int .i16 a0_3, .int .i32 a0_4] 37 (0, 0))) ∧ Aside0 (wc.heap[gb104]? = some (.cells #[.int .i64 0, .int .i64 0, .int .i64 0, .bool false, .bool false] 49 (0, 0))) ∧ Aside0 (Below w.heap.size w wc))
 case first =>
  have H := HC2.out
  clear HC2
  by_cases c7 : (Go.bits .and .u8 a0_0 7) = 4
  ·rw [if_pos c7] at H
   obtain ⟨c7b0, c7b1⟩ := eqT c7
   clear c7
   (first | rw [c7b0] | (simp only [i64_w, i32_w]; rw [c7b0]) | skip)
   have H' := Aside0.mk H
   clear H
   go_wp2
   go_meet
   case rel => exact ⟨_, (((Go.bits .and .u8 a0_0 7) == 4)), eq_now, H', ⟨by first | omega | exact Nat.le_refl _⟩, ⟨bk_now⟩, ⟨bk_now⟩, ⟨b_now⟩⟩
  ·rw [if_neg c7] at H
   obtain ⟨c7b0, c7b1⟩ := eqF c7
   (first | rw [c7b0] | (simp only [i64_w, i32_w]; rw [c7b0]) | skip)
   have H' := Aside0.mk H
   clear H
   go_wp2
   go_meet
   case rel => exact ⟨_, (((Go.bits .and .u8 a0_0 7) == 7)), eq_now, H', ⟨by first | omega | exact Nat.le_refl _⟩, ⟨bk_now⟩, ⟨bk_now⟩, ⟨b_now⟩⟩
 case rest =>
  clear HC2
  clear hcz6
  obtain ⟨kq, x17_1, rfl, HA, HJ1, BK103, BK104, HB⟩ := hcut
  cases kq with
  | zero => exact absurd HA.out (by simp [insn_kind.j0])
  | succ kj1 =>
   have H := HA.out
   clear HA
   simp only [insn_kind.j0] at H
   by_cases c8 : x17_1 = true
   ·subst c8
    replace H := sh_t H
    have HC9 := Aside0.mk H
    clear H
    go_upto_region 6 with (fail)
    go_cut [37] (fun v37 wc => ∃ (kq : Nat) (x37_8 : Bool), v37 = .bool x37_8 ∧ Aside0 (insn_kind.j1 kq (wrap64 (a0_0 / 16)) ((Go.bits .and .u8 a0_0 8) != 0) x37_8 a0_0 a0_1 a0_2 a0_3 a0_4 = some (r1, r2, r3, r4, r5)) ∧ Aside0 (kq ≤ kj1) ∧ Aside0 (wc.heap[gb103]? = some (.cells #[.int .u8 a0_0, .int .u8 a0_1, .int .u8 a0_2, .int .i16 a0_3, .int .i32 a0_4] 37 (0, 0))) ∧ Aside0 (wc.heap[gb104]? = some (.cells #[.int .i64 0, .int .i64 0, .int .i64 0, .bool false, .bool false] 49 (0, 0))) ∧ Aside0 (Below w.heap.size w wc))
    case first =>
     have H := HC9.out
     clear HC9
     by_cases c10 : a0_0 = 215
     ·rw [if_pos c10] at H
      obtain ⟨c10b0, c10b1⟩ := eqT c10
      clear c10
      (first | rw [c10b0] | (simp only [i64_w, i32_w]; rw [c10b0]) | skip)
      by_cases c11 : a0_4 = 16
      ·rw [if_pos c11] at H
       obtain ⟨c11b0, c11b1⟩ := eqT c11
       clear c11
       have H' := Aside0.mk H
       clear H
       obtain ⟨hnb12, hnc12⟩ := nb_ NB103_104
       have hcz13 := blk_all5 BK103.out
       go_wp2
       go_meet
       case rel => exact ⟨_, (true), eq_now, H', ⟨by have := HJ1.out; first | omega | exact Nat.le_refl _⟩, ⟨bk_now⟩, ⟨bk_now⟩, ⟨b_now⟩⟩
      ·rw [if_neg c11] at H
       obtain ⟨c11b0, c11b1⟩ := eqF c11
       by_cases c14 : a0_4 = 32
       ·rw [if_pos c14] at H
        obtain ⟨c14b0, c14b1⟩ := eqT c14
        clear c14
        have H' := Aside0.mk H
        clear H
        obtain ⟨hnb15, hnc15⟩ := nb_ NB103_104
        have hcz16 := blk_all5 BK103.out
        go_wp2
        go_meet
        case rel => exact ⟨_, (true), eq_now, H', ⟨by have := HJ1.out; first | omega | exact Nat.le_refl _⟩, ⟨bk_now⟩, ⟨bk_now⟩, ⟨b_now⟩⟩
       ·rw [if_neg c14] at H
        obtain ⟨c14b0, c14b1⟩ := eqF c14
        have H' := Aside0.mk H
        clear H
        obtain ⟨hnb17, hnc17⟩ := nb_ NB103_104
        have hcz18 := blk_all5 BK103.out
        go_wp2
        go_meet
        case rel => exact ⟨_, ((a0_4 == 64)), eq_now, H', ⟨by have := HJ1.out; first | omega | exact Nat.le_refl _⟩, ⟨bk_now⟩, ⟨bk_now⟩, ⟨b_now⟩⟩
     ·rw [if_neg c10] at H
      obtain ⟨c10b0, c10b1⟩ := eqF c10
      (first | rw [c10b0] | (simp only [i64_w, i32_w]; rw [c10b0]) | skip)
      have H' := Aside0.mk H
      clear H
      obtain ⟨hnb19, hnc19⟩ := nb_ NB103_104
      have hcz20 := blk_all5 BK103.out
      go_wp2
      go_meet
      case rel => exact ⟨_, (false), eq_now, H', ⟨by have := HJ1.out; first | omega | exact Nat.le_refl _⟩, ⟨bk_now⟩, ⟨bk_now⟩, ⟨b_now⟩⟩
    case rest =>
     clear HC9
     obtain ⟨kq, x37_8, rfl, HA, HJ8, BK103, BK104, HB⟩ := hcut
     cases kq with
     | zero => exact absurd HA.out (by simp [insn_kind.j1])
     | succ kj8 =>
      have H := HA.out
      clear HA
      simp only [insn_kind.j1] at H
      by_cases c21 : x37_8 = true
      ·subst c21
       replace H := sh_t H
       obtain ⟨rfl, rfl, rfl, rfl, rfl⟩ := pi5 H
       obtain ⟨hnb22, hnc22⟩ := nb_ NB103_104
       have hcz23 := blk_all5 BK103.out
       have hcz24 := blk_all5 BK104.out
       go_wp2
       refine bodyPost_ret (results_cell_row rfl _ _ gb104 49 #[.int .i64 2, .int .i64 0, .int .i64 (wrap64 (Int.tdiv (wrap64 (a0_4)) 8)), .bool false, .bool false] (0, 0) _ rfl bk_now Tryd.underlying49 rfl (by kernel_rfl)) rfl ?_
       exact ⟨ret_now, b_now⟩
      ·replace c21 := Bool.eq_false_iff.mpr c21
       subst c21
       replace H := sh_f H
       by_cases c25 : (wrap64 (a0_0 / 16)) ≤ 12
       ·rw [if_pos c25] at H
        have c25b0 : decide ((wrap64 (a0_0 / 16)) ≤ 12) = true := decide_eq_true c25
        clear c25
        by_cases c26 : (wrap64 (a0_0 / 16)) = 8
        ·rw [if_pos c26] at H
         obtain ⟨c26b0, c26b1⟩ := eqT c26
         clear c26
         by_cases c27 : ((Go.bits .and .u8 a0_0 8) != 0) = true
         ·rw [if_pos c27] at H
          have c27b0 : ((Go.bits .and .u8 a0_0 8) != 0) = true := c27
          (try (have c27b1 : decide ((Go.bits .and .u8 a0_0 8) = 0) = false := by simpa using c27))
          (try (have c27b2 : ((Go.bits .and .u8 a0_0 8) == 0) = false := by simpa using c27))
          (try (have c27b3 : ¬ ((Go.bits .and .u8 a0_0 8) = 0) := by simpa using c27))
          clear c27
          obtain ⟨rfl, rfl, rfl, rfl, rfl⟩ := pi5 H
          obtain ⟨hnb28, hnc28⟩ := nb_ NB104_103
          have hcz29 := blk_all5 BK104.out
          go_wp2
          refine bodyPost_ret (results_cell_row rfl _ _ gb104 49 #[.int .i64 0, .int .i64 0, .int .i64 0, .bool false, .bool false] (0, 0) _ rfl bk_now Tryd.underlying49 rfl (by kernel_rfl)) rfl ?_
          exact ⟨ret_now, b_now⟩
         ·rw [if_neg c27] at H
          have c27b0 : ((Go.bits .and .u8 a0_0 8) != 0) = false := by simpa using c27
          (try (have c27b1 : decide ((Go.bits .and .u8 a0_0 8) = 0) = true := by simpa using c27))
          (try (have c27b2 : ((Go.bits .and .u8 a0_0 8) == 0) = true := by simpa using c27))
          clear c27
          obtain ⟨rfl, rfl, rfl, rfl, rfl⟩ := pi5 H
          obtain ⟨hnb30, hnc30⟩ := nb_ NB103_104
          have hcz31 := blk_all5 BK103.out
          have hcz32 := blk_all5 BK104.out
          go_wp2
          refine bodyPost_ret (results_cell_row rfl _ _ gb104 49 #[.int .i64 1, .int .i64 (wrap64 (a0_0 / 16)), .int .i64 0, .bool ((Go.bits .and .u8 a0_0 7) == 7), .bool ((Go.bits .and .u8 a0_0 8) != 0)] (0, 0) _ rfl bk_now Tryd.underlying49 rfl (by kernel_rfl)) rfl ?_
          exact ⟨ret_now, b_now⟩
        ·rw [if_neg c26] at H
         obtain ⟨c26b0, c26b1⟩ := eqF c26
         obtain ⟨rfl, rfl, rfl, rfl, rfl⟩ := pi5 H
         obtain ⟨hnb33, hnc33⟩ := nb_ NB103_104
         have hcz34 := blk_all5 BK103.out
         have hcz35 := blk_all5 BK104.out
         go_wp2
         refine bodyPost_ret (results_cell_row rfl _ _ gb104 49 #[.int .i64 1, .int .i64 (wrap64 (a0_0 / 16)), .int .i64 0, .bool ((Go.bits .and .u8 a0_0 7) == 7), .bool ((Go.bits .and .u8 a0_0 8) != 0)] (0, 0) _ rfl bk_now Tryd.underlying49 rfl (by kernel_rfl)) rfl ?_
         exact ⟨ret_now, b_now⟩
       ·rw [if_neg c25] at H
        have c25b0 : decide ((wrap64 (a0_0 / 16)) ≤ 12) = false := decide_eq_false c25
        clear c25
        obtain ⟨rfl, rfl, rfl, rfl, rfl⟩ := pi5 H
        obtain ⟨hnb36, hnc36⟩ := nb_ NB104_103
        have hcz37 := blk_all5 BK104.out
        go_wp2
        refine bodyPost_ret (results_cell_row rfl _ _ gb104 49 #[.int .i64 0, .int .i64 0, .int .i64 0, .bool false, .bool false] (0, 0) _ rfl bk_now Tryd.underlying49 rfl (by kernel_rfl)) rfl ?_
        exact ⟨ret_now, b_now⟩
   ·replace c8 := Bool.eq_false_iff.mpr c8
    subst c8
    replace H := sh_f H
    have HC38 := Aside0.mk H
    clear H
    go_upto_if 60 with (fail)
    go_cut [60] (fun v60 wc => ∃ (kq : Nat) (x60_37 : Bool), v60 = .bool x60_37 ∧ Aside0 (insn_kind.j2 kq (wrap64 (a0_0 / 16)) ((Go.bits .and .u8 a0_0 8) != 0) (Go.bits .and .u8 a0_0 7) x60_37 a0_0 a0_1 a0_2 a0_3 a0_4 = some (r1, r2, r3, r4, r5)) ∧ Aside0 (kq ≤ kj1) ∧ Aside0 (wc.heap[gb103]? = some (.cells #[.int .u8 a0_0, .int .u8 a0_1, .int .u8 a0_2, .int .i16 a0_3, .int .i32 a0_4] 37 (0, 0))) ∧ Aside0 (wc.heap[gb104]? = some (.cells #[.int .i64 0, .int .i64 0, .int .i64 0, .bool false, .bool false] 49 (0, 0))) ∧ Aside0 (Below w.heap.size w wc))
    case first =>
     have H := HC38.out
     clear HC38
     by_cases c39 : (Go.bits .and .u8 a0_0 7) = 5
     ·rw [if_pos c39] at H
      obtain ⟨c39b0, c39b1⟩ := eqT c39
      clear c39
      (first | rw [c39b0] | (simp only [i64_w, i32_w]; rw [c39b0]) | skip)
      have H' := Aside0.mk H
      clear H
      go_wp2
      go_meet
      case rel => exact ⟨_, (((Go.bits .and .u8 a0_0 7) == 5)), eq_now, H', ⟨by have := HJ1.out; first | omega | exact Nat.le_refl _⟩, ⟨bk_now⟩, ⟨bk_now⟩, ⟨b_now⟩⟩
     ·rw [if_neg c39] at H
      obtain ⟨c39b0, c39b1⟩ := eqF c39
      (first | rw [c39b0] | (simp only [i64_w, i32_w]; rw [c39b0]) | skip)
      have H' := Aside0.mk H
      clear H
      go_wp2
      go_meet
      case rel => exact ⟨_, (((Go.bits .and .u8 a0_0 7) == 6)), eq_now, H', ⟨by have := HJ1.out; first | omega | exact Nat.le_refl _⟩, ⟨bk_now⟩, ⟨bk_now⟩, ⟨b_now⟩⟩
    case rest =>
     clear HC38
     obtain ⟨kq, x60_37, rfl, HA, HJ37, BK103, BK104, HB⟩ := hcut
     cases kq with
     | zero => exact absurd HA.out (by simp [insn_kind.j2])
     | succ kj37 =>
      have H := HA.out
      clear HA
      simp only [insn_kind.j2] at H
      by_cases c40 : x60_37 = true
      ·subst c40
       replace H := sh_t H
       obtain ⟨⟨t105, t106, t107, t108, t109⟩, A41, H⟩ := bs_ H; try dsimp only at H
       obtain ⟨rfl, rfl, rfl, rfl, rfl⟩ := pi5 H
       obtain ⟨hnb42, hnc42⟩ := nb_ NB103_104
       have hcz43 := blk_all5 BK103.out
       go_wp2_with (first | ((with_reducible refine gate_callee (f := 45) rfl ?_); refine sh_call (some 67) Tryd.func45 #[.int .u8 a0_0, .int .i64 (wrap64 (a0_0 / 16)), .bool ((Go.bits .and .u8 a0_0 8) != 0)] ?_; (with_reducible refine (insn_jump.calls a0_0 (wrap64 (a0_0 / 16)) ((Go.bits .and .u8 a0_0 8) != 0) t105 t106 t107 t108 t109 _ A41.out).mono ?_); rintro e w44 ⟨rfl, hb⟩; refine ⟨_, rfl, ?_⟩; replace BK103 := sh_k BK103 hb; replace BK104 := sh_k BK104 hb; replace HB := sh_b (w := w) hb; (try clear hb); (try clear hb2); (try clear hk); (try clear hi); have hcz45 := blk_all5 BK104.out))
       refine bodyPost_ret (results_cell_row rfl _ _ gb104 49 #[.int .i64 t105, .int .i64 t106, .int .i64 t107, .bool t108, .bool t109] (0, 0) _ rfl bk_now Tryd.underlying49 rfl (by kernel_rfl)) rfl ?_
       exact ⟨ret_now, b_now⟩
      ·replace c40 := Bool.eq_false_iff.mpr c40
       subst c40
       replace H := sh_f H
       have HC46 := Aside0.mk H
       clear H
       go_upto_if 68 with (fail)
       go_cut [68] (fun v68 wc => ∃ (kq : Nat) (x68_45 : Bool), v68 = .bool x68_45 ∧ Aside0 (insn_kind.j3 kq (Go.bits .and .u8 a0_0 7) x68_45 a0_0 a0_1 a0_2 a0_3 a0_4 = some (r1, r2, r3, r4, r5)) ∧ Aside0 (kq ≤ kj37) ∧ Aside0 (wc.heap[gb103]? = some (.cells #[.int .u8 a0_0, .int .u8 a0_1, .int .u8 a0_2, .int .i16 a0_3, .int .i32 a0_4] 37 (0, 0))) ∧ Aside0 (wc.heap[gb104]? = some (.cells #[.int .i64 0, .int .i64 0, .int .i64 0, .bool false, .bool false] 49 (0, 0))) ∧ Aside0 (Below w.heap.size w wc))
       case first =>
        have H := HC46.out
        clear HC46
        by_cases c47 : (Go.bits .and .u8 a0_0 7) = 1
        ·rw [if_pos c47] at H
         obtain ⟨c47b0, c47b1⟩ := eqT c47
         clear c47
         (first | rw [c47b0] | (simp only [i64_w, i32_w]; rw [c47b0]) | skip)
         have H' := Aside0.mk H
         clear H
         go_wp2
         go_meet
         case rel => exact ⟨_, (((Go.bits .and .u8 a0_0 7) == 1)), eq_now, H', ⟨by have := HJ1.out; have := HJ37.out; first | omega | exact Nat.le_refl _⟩, ⟨bk_now⟩, ⟨bk_now⟩, ⟨b_now⟩⟩
        ·rw [if_neg c47] at H
         obtain ⟨c47b0, c47b1⟩ := eqF c47
         (first | rw [c47b0] | (simp only [i64_w, i32_w]; rw [c47b0]) | skip)
         by_cases c48 : (Go.bits .and .u8 a0_0 7) = 2
         ·rw [if_pos c48] at H
          obtain ⟨c48b0, c48b1⟩ := eqT c48
          clear c48
          have H' := Aside0.mk H
          clear H
          go_wp2
          go_meet
          case rel => exact ⟨_, (((Go.bits .and .u8 a0_0 7) == 2)), eq_now, H', ⟨by have := HJ1.out; have := HJ37.out; first | omega | exact Nat.le_refl _⟩, ⟨bk_now⟩, ⟨bk_now⟩, ⟨b_now⟩⟩
         ·rw [if_neg c48] at H
          obtain ⟨c48b0, c48b1⟩ := eqF c48
          have H' := Aside0.mk H
          clear H
          go_wp2
          go_meet
          case rel => exact ⟨_, (((Go.bits .and .u8 a0_0 7) == 3)), eq_now, H', ⟨by have := HJ1.out; have := HJ37.out; first | omega | exact Nat.le_refl _⟩, ⟨bk_now⟩, ⟨bk_now⟩, ⟨b_now⟩⟩
       case rest =>
        clear HC46
        obtain ⟨kq, x68_45, rfl, HA, HJ45, BK103, BK104, HB⟩ := hcut
        cases kq with
        | zero => exact absurd HA.out (by simp [insn_kind.j3])
        | succ kj45 =>
         have H := HA.out
         clear HA
         simp only [insn_kind.j3] at H
         by_cases c49 : x68_45 = true
         ·subst c49
          replace H := sh_t H
          by_cases c50 : (a0_0 / 32) = 3
          ·rw [if_pos c50] at H
           obtain ⟨c50b0, c50b1⟩ := eqT c50
           clear c50
           by_cases c51 : 0 ≤ (Go.bits .and .u8 a0_0 3)
           ·rw [if_pos c51] at H
            have c51b0 : decide (0 ≤ (Go.bits .and .u8 a0_0 3)) = true := decide_eq_true c51
            clear c51
            by_cases c52 : (Go.bits .and .u8 a0_0 3) < 4
            ·rw [if_pos c52] at H
             have c52b0 : decide ((Go.bits .and .u8 a0_0 3) < 4) = true := decide_eq_true c52
             clear c52
             obtain ⟨i110_, hi110_, _⟩ := Option.map_eq_some_iff.1 (show (Tryd.prog.info? 3).map (fun i => i.size) = some 1 by kernel_rfl)
             have ix110 : ∀ W_ : World, (Instr.index 105 (.agg #[.int .i64 0, .int .i64 3, .int .i64 5, .int .i64 4]) (.int .u8 (Go.bits .and .u8 a0_0 3))).run Tryd.prog W_ = .ok (.int .i64 (rdOf (0 : Int) ([0, 3, 5, 4] : List Int) (Go.bits .and .u8 a0_0 3))) W_ := fun W_ => run_index_enc (Value.int .i64) (0 : Int) ([0, 3, 5, 4] : List Int) (Go.bits .and .u8 a0_0 3) W_ Tryd.underlying105 (fun W_ => by kernel_rfl) hi110_ (by kernel_rfl) (by first | omega | exact od_) (by first | omega | exact od_) rfl
             clear hi110_
             obtain ⟨ji53, hji53⟩ : ∃ j_ : Int, (Go.bits .and .u8 (a0_0 / 8) 3) = j_ := ⟨_, rfl⟩
             replace H : (if 0 ≤ (ji53) then (if (ji53) < 4 then (some (rdOf (0 : Int) ([0, 3, 5, 4] : List Int) (Go.bits .and .u8 a0_0 3), 0, rd gl2 (ji53), false, false)) else (none)) else (none)) = some (r1, r2, r3, r4, r5) := by first | (rw [hji53] at H; exact H) | (simp only [hji53] at H ⊢; exact H)
             by_cases c54 : 0 ≤ (ji53)
             ·rw [if_pos c54] at H
              have c54b0 : decide (0 ≤ (ji53)) = true := decide_eq_true c54
              clear c54
              by_cases c55 : (ji53) < 4
              ·rw [if_pos c55] at H
               have c55b0 : decide ((ji53) < 4) = true := decide_eq_true c55
               clear c55
               obtain ⟨rfl, rfl, rfl, rfl, rfl⟩ := pi5 H
               obtain ⟨hnb56, hnc56⟩ := nb_ NB103_104
               have hcz57 := blk_all5 BK103.out
               have p111 : 0 ≤ ((ji53) : Int) := od_
               have q111 : (ji53) < (gl2.length : Int) := od_
               have ql111 : (((ji53) : Int) < (4 : Int)) = True := eq_true (od_)
               obtain ⟨ad111, e111, hx111_0⟩ := Kd.at_int HRG2.out (ji53) p111 q111
               obtain rfl : (⟨2, 0, none⟩ : Addr) = ad111 := (by injection e111)
               (first | simp only [add_plain] at hx111_0 | simp only [add_at] at hx111_0 | simp only [Addr.add, Nat.zero_add] at hx111_0 | skip)
               replace hx111_0 := (HB.out.cell (World.block_lt_of_cell? w _ hx111_0)).trans hx111_0
               replace p111 := eq_true p111
               replace q111 := eq_true q111
               have hcz58 := blk_all5 BK104.out
               go_wp2
               refine bodyPost_ret (results_cell_row rfl _ _ gb104 49 #[.int .i64 (rdOf (0 : Int) ([0, 3, 5, 4] : List Int) (Go.bits .and .u8 a0_0 3)), .int .i64 0, .int .i64 (rd gl2 (ji53)), .bool false, .bool false] (0, 0) _ rfl (by (with_reducible repeat (first | refine blk_drewN ?_ _ | refine blk_drew ?_ | refine blk_alloc ?_ _)); refine blk_put (cs := #[.int .i64 (rdOf (0 : Int) ([0, 3, 5, 4] : List Int) (Go.bits .and .u8 a0_0 3)), .int .i64 0, .int .i64 (rd gl2 (ji53)), .bool false, .bool false]) ?_ 4 _ rfl; (with_reducible repeat (first | refine blk_drewN ?_ _ | refine blk_drew ?_ | refine blk_alloc ?_ _)); refine blk_put (cs := #[.int .i64 (rdOf (0 : Int) ([0, 3, 5, 4] : List Int) (Go.bits .and .u8 a0_0 3)), .int .i64 0, .int .i64 (rd gl2 (ji53)), .bool false, .bool false]) ?_ 3 _ rfl; (with_reducible repeat (first | refine blk_drewN ?_ _ | refine blk_drew ?_ | refine blk_alloc ?_ _)); refine blk_put (cs := #[.int .i64 (rdOf (0 : Int) ([0, 3, 5, 4] : List Int) (Go.bits .and .u8 a0_0 3)), .int .i64 0, .int .i64 0, .bool false, .bool false]) ?_ 2 _ rfl; (with_reducible repeat (first | refine blk_drewN ?_ _ | refine blk_drew ?_ | refine blk_alloc ?_ _)); refine blk_put (cs := #[.int .i64 (rdOf (0 : Int) ([0, 3, 5, 4] : List Int) (Go.bits .and .u8 a0_0 3)), .int .i64 0, .int .i64 0, .bool false, .bool false]) ?_ 1 _ rfl; (with_reducible repeat (first | refine blk_drewN ?_ _ | refine blk_drew ?_ | refine blk_alloc ?_ _)); refine blk_put (cs := #[.int .i64 0, .int .i64 0, .int .i64 0, .bool false, .bool false]) ?_ 0 _ rfl; (with_reducible repeat (first | refine blk_drewN ?_ _ | refine blk_drew ?_ | refine blk_alloc ?_ _)); exact BK104.out) Tryd.underlying49 rfl (by kernel_rfl)) rfl ?_
               exact ⟨by first | rfl | (simp [errW_none, errW_some] <;> rfl) | (simp only [← hji53]; first | rfl | (simp [errW_none, errW_some] <;> rfl)) | (simp [*, errW_none, errW_some] <;> rfl), b_now⟩
              ·rw [if_neg c55] at H
               exact absurd H (by simp)
             ·rw [if_neg c54] at H
              exact absurd H (by simp)
            ·rw [if_neg c52] at H
             exact absurd H (by simp)
           ·rw [if_neg c51] at H
            exact absurd H (by simp)
          ·rw [if_neg c50] at H
           obtain ⟨c50b0, c50b1⟩ := eqF c50
           obtain ⟨rfl, rfl, rfl, rfl, rfl⟩ := pi5 H
           obtain ⟨hnb59, hnc59⟩ := nb_ NB103_104
           have hcz60 := blk_all5 BK103.out
           have hcz61 := blk_all5 BK104.out
           go_wp2
           refine bodyPost_ret (results_cell_row rfl _ _ gb104 49 #[.int .i64 0, .int .i64 0, .int .i64 0, .bool false, .bool false] (0, 0) _ rfl bk_now Tryd.underlying49 rfl (by kernel_rfl)) rfl ?_
           exact ⟨ret_now, b_now⟩
         ·replace c49 := Bool.eq_false_iff.mpr c49
          subst c49
          replace H := sh_f H
          by_cases c62 : (Go.bits .and .u8 a0_0 7) = 0
          ·rw [if_pos c62] at H
           obtain ⟨c62b0, c62b1⟩ := eqT c62
           clear c62
           by_cases c63 : a0_0 = 24
           ·rw [if_pos c63] at H
            obtain ⟨c63b0, c63b1⟩ := eqT c63
            clear c63
            by_cases c64 : a0_2 < 2
            ·rw [if_pos c64] at H
             have c64b0 : decide (a0_2 < 2) = true := decide_eq_true c64
             clear c64
             obtain ⟨rfl, rfl, rfl, rfl, rfl⟩ := pi5 H
             obtain ⟨hnb65, hnc65⟩ := nb_ NB103_104
             have hcz66 := blk_all5 BK103.out
             have hcz67 := blk_all5 BK104.out
             go_wp2
             refine bodyPost_ret (results_cell_row rfl _ _ gb104 49 #[.int .i64 (wrap64 (10 + (wrap64 (a0_2)))), .int .i64 0, .int .i64 0, .bool false, .bool false] (0, 0) _ rfl bk_now Tryd.underlying49 rfl (by kernel_rfl)) rfl ?_
             exact ⟨ret_now, b_now⟩
            ·rw [if_neg c64] at H
             have c64b0 : decide (a0_2 < 2) = false := decide_eq_false c64
             clear c64
             obtain ⟨rfl, rfl, rfl, rfl, rfl⟩ := pi5 H
             obtain ⟨hnb68, hnc68⟩ := nb_ NB103_104
             have hcz69 := blk_all5 BK103.out
             have hcz70 := blk_all5 BK104.out
             go_wp2
             refine bodyPost_ret (results_cell_row rfl _ _ gb104 49 #[.int .i64 0, .int .i64 0, .int .i64 0, .bool false, .bool false] (0, 0) _ rfl bk_now Tryd.underlying49 rfl (by kernel_rfl)) rfl ?_
             exact ⟨ret_now, b_now⟩
           ·rw [if_neg c63] at H
            obtain ⟨c63b0, c63b1⟩ := eqF c63
            obtain ⟨rfl, rfl, rfl, rfl, rfl⟩ := pi5 H
            obtain ⟨hnb71, hnc71⟩ := nb_ NB103_104
            have hcz72 := blk_all5 BK103.out
            have hcz73 := blk_all5 BK104.out
            go_wp2
            refine bodyPost_ret (results_cell_row rfl _ _ gb104 49 #[.int .i64 0, .int .i64 0, .int .i64 0, .bool false, .bool false] (0, 0) _ rfl bk_now Tryd.underlying49 rfl (by kernel_rfl)) rfl ?_
            exact ⟨ret_now, b_now⟩
          ·rw [if_neg c62] at H
           obtain ⟨c62b0, c62b1⟩ := eqF c62
           obtain ⟨rfl, rfl, rfl, rfl, rfl⟩ := pi5 H
           obtain ⟨hnb74, hnc74⟩ := nb_ NB104_103
           have hcz75 := blk_all5 BK104.out
           go_wp2
           refine bodyPost_ret (results_cell_row rfl _ _ gb104 49 #[.int .i64 0, .int .i64 0, .int .i64 0, .bool false, .bool false] (0, 0) _ rfl bk_now Tryd.underlying49 rfl (by kernel_rfl)) rfl ?_
           exact ⟨ret_now, b_now⟩

end Go.Proofs.YtondogoepcndiaaDoor.P
