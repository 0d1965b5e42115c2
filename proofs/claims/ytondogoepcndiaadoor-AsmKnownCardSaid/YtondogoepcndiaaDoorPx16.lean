/- Made by this session's driver over the kit's printer: for each Go function a Lean function with the same answers, and a proof that the Go call comes to these answers; no conditions but the ones each theorem names. -/
import Derived.Test.YtondogoepcndiaaDoorPx0
import Derived.Test.YtondogoepcndiaaDoorPxXXNu
import Derived.Test.YtondogoepcndiaaDoorPxXXTa
namespace Go.Proofs.YtondogoepcndiaaDoor.P
open Go.RowKit Go.Proofs.YtondogoepcndiaaDoorW.PrintWords Go.Proofs.YtondogoepcndiaaDoorW.PrintLast Go.Proofs.YtondogoepcndiaaDoorW.PrintMore
attribute [local go_sem] max2_int min2_int max_two min_two max_three min_three max_four min_four   -- for this text's walks alone
set_option linter.unusedVariables false
set_option linter.unusedSimpArgs false

/-! ### asm_whole: function 69 -/
def asm_whole.f (a0 : ByteArray) : Option (Int) := if a0.toList = ([103, 111, 116, 111] : List UInt8) then (some 7) else (if a0.toList = ([99, 97, 108, 108] : List UInt8) then (some 8) else (if a0.toList = ([101, 120, 105, 116] : List UInt8) then (some 9) else (if a0.toList = ([99, 111, 110, 115, 116] : List UInt8) then (some 10) else (if a0.toList = ([109, 97, 112] : List UInt8) then (some 11) else (some 0)))))
set_option maxHeartbeats 8000000 in
set_option maxRecDepth 100000 in
theorem asm_whole.calls (a0 : ByteArray) (r : Int) (w : World) (h : asm_whole.f a0 = some r) :
  Calls Tryd.prog 69 #[.string a0] w fun e w' => e = .returned (.int .i64 r) ∧ Drawn0 w w' := by
 have H : (if a0.toList = ([103, 111, 116, 111] : List UInt8) then (some 7) else (if a0.toList = ([99, 97, 108, 108] : List UInt8) then (some 8) else (if a0.toList = ([101, 120, 105, 116] : List UInt8) then (some 9) else (if a0.toList = ([99, 111, 110, 115, 116] : List UInt8) then (some 10) else (if a0.toList = ([109, 97, 112] : List UInt8) then (some 11) else (some 0)))))) = some r := h
 clear h
 by_cases c2 : a0.toList = ([103, 111, 116, 111] : List UInt8)
 ·rw [if_pos c2] at H
  obtain ⟨c2b0, c2b1⟩ := eqT c2
  clear c2
  obtain rfl := Option.some.inj H
  go_enter Tryd.func69, Tryd.ntmps69
  go_wp2
  go_ret
  exact ⟨by first | rfl | (simp; done) | (simp [*]; done), by repeat (first | exact Drawn0.refl _ | apply Drawn0.step)⟩
 ·rw [if_neg c2] at H
  obtain ⟨c2b0, c2b1⟩ := eqF c2
  by_cases c3 : a0.toList = ([99, 97, 108, 108] : List UInt8)
  ·rw [if_pos c3] at H
   obtain ⟨c3b0, c3b1⟩ := eqT c3
   clear c3
   obtain rfl := Option.some.inj H
   go_enter Tryd.func69, Tryd.ntmps69
   go_wp2
   go_ret
   exact ⟨by first | rfl | (simp; done) | (simp [*]; done), by repeat (first | exact Drawn0.refl _ | apply Drawn0.step)⟩
  ·rw [if_neg c3] at H
   obtain ⟨c3b0, c3b1⟩ := eqF c3
   by_cases c4 : a0.toList = ([101, 120, 105, 116] : List UInt8)
   ·rw [if_pos c4] at H
    obtain ⟨c4b0, c4b1⟩ := eqT c4
    clear c4
    obtain rfl := Option.some.inj H
    go_enter Tryd.func69, Tryd.ntmps69
    go_wp2
    go_ret
    exact ⟨by first | rfl | (simp; done) | (simp [*]; done), by repeat (first | exact Drawn0.refl _ | apply Drawn0.step)⟩
   ·rw [if_neg c4] at H
    obtain ⟨c4b0, c4b1⟩ := eqF c4
    by_cases c5 : a0.toList = ([99, 111, 110, 115, 116] : List UInt8)
    ·rw [if_pos c5] at H
     obtain ⟨c5b0, c5b1⟩ := eqT c5
     clear c5
     obtain rfl := Option.some.inj H
     go_enter Tryd.func69, Tryd.ntmps69
     go_wp2
     go_ret
     exact ⟨by first | rfl | (simp; done) | (simp [*]; done), by repeat (first | exact Drawn0.refl _ | apply Drawn0.step)⟩
    ·rw [if_neg c5] at H
     obtain ⟨c5b0, c5b1⟩ := eqF c5
     by_cases c6 : a0.toList = ([109, 97, 112] : List UInt8)
     ·rw [if_pos c6] at H
      obtain ⟨c6b0, c6b1⟩ := eqT c6
      clear c6
      obtain rfl := Option.some.inj H
      go_enter Tryd.func69, Tryd.ntmps69
      go_wp2
      go_ret
      exact ⟨by first | rfl | (simp; done) | (simp [*]; done), by repeat (first | exact Drawn0.refl _ | apply Drawn0.step)⟩
     ·rw [if_neg c6] at H
      obtain ⟨c6b0, c6b1⟩ := eqF c6
      obtain rfl := Option.some.inj H
      go_enter Tryd.func69, Tryd.ntmps69
      go_wp2
      go_ret
      exact ⟨by first | rfl | (simp; done) | (simp [*]; done), by repeat (first | exact Drawn0.refl _ | apply Drawn0.step)⟩

/-! ### asm_verb: function 50 -/
mutual
def asm_verb.j1 : Nat → ByteArray → Int → Option (Int × Int × Int × Bool × Bool)
 | 0, _, _ => none
 | k + 1, x0, x4 => if 0 ≤ x4 then (if x4 ≤ (x0.size : Int) then ((asm_number.f (x0.extract (x4 : Int).toNat x0.size) 8).bind fun t197 => (if t197 = 4611686018427387904 then (some ((-1), 0, 0, false, false)) else (asm_verb.l1 k (x0.extract 0 (x4 : Int).toNat) t197 0))) else (none)) else (none)
def asm_verb.l1 : Nat → ByteArray → Int → Int → Option (Int × Int × Int × Bool × Bool)
 | 0, _, _, _ => none
 | k + 1, x5, x6, x44 => if x44 < 13 then (if 0 ≤ x44 then (if (rdOf ByteArray.empty gl0 x44).toList = x5.toList then (some (1, x44, 0, (x6 == 64), false)) else (asm_verb.l1 k x5 x6 (wrap64 (x44 + 1)))) else (none)) else (asm_verb.l2 k x5 x6 0)
def asm_verb.l2 : Nat → ByteArray → Int → Int → Option (Int × Int × Int × Bool × Bool)
 | 0, _, _, _ => none
 | k + 1, x5, x6, x57 => if x57 < 14 then (if 0 ≤ x57 then (if (rdOf ByteArray.empty gl1 x57).toList = x5.toList then (if x5.toList = ([] : List UInt8) then (asm_verb.l2 k x5 x6 (wrap64 (x57 + 1))) else (some (6, x57, 0, (x6 == 64), false))) else (asm_verb.l2 k x5 x6 (wrap64 (x57 + 1)))) else (none)) else ((stringslite_Cut.f x5 x6).bind fun bt200 => (some (bt200.1, bt200.2.1, bt200.2.2.1, bt200.2.2.2.1, bt200.2.2.2.2)))
def asm_verb.l0 : Nat → ByteArray → Int → Option (Int × Int × Int × Bool × Bool)
 | 0, _, _ => none
 | k + 1, x0, x4 => if x4 > 0 then (if 0 ≤ (wrap64 (x4 - 1)) then (if (wrap64 (x4 - 1)) < (x0.size : Int) then (if (bt x0 (wrap64 (x4 - 1))) ≥ 48 then (if (bt x0 (wrap64 (x4 - 1))) ≤ 57 then (asm_verb.l0 k x0 (wrap64 (x4 - 1))) else (asm_verb.j1 k x0 x4)) else (asm_verb.j1 k x0 x4)) else (none)) else (none)) else (asm_verb.j1 k x0 x4)
end
def asm_verb.f (k : Nat) (a0 : ByteArray) : Option (Int × Int × Int × Bool × Bool) := (asm_whole.f a0).bind fun t196 => (if t196 > 0 then (some (t196, 0, 0, false, false)) else (asm_verb.l0 k a0 (a0.size : Int)))
theorem asm_verb.mono_l : ∀ k, (∀ y0 y1, LeO (asm_verb.j1 k y0 y1) (asm_verb.j1 (k + 1) y0 y1)) ∧ (∀ y0 y1 y2, LeO (asm_verb.l1 k y0 y1 y2) (asm_verb.l1 (k + 1) y0 y1 y2)) ∧ (∀ y0 y1 y2, LeO (asm_verb.l2 k y0 y1 y2) (asm_verb.l2 (k + 1) y0 y1 y2)) ∧ (∀ y0 y1, LeO (asm_verb.l0 k y0 y1) (asm_verb.l0 (k + 1) y0 y1))
 | 0 => ⟨fun _ _ r h => by simp [asm_verb.j1] at h, fun _ _ _ r h => by simp [asm_verb.l1] at h, fun _ _ _ r h => by simp [asm_verb.l2] at h, fun _ _ r h => by simp [asm_verb.l0] at h⟩
 | k + 1 => by
  obtain ⟨ih0, ih1, ih2, ih3⟩ := asm_verb.mono_l k
  refine ⟨?_, ?_, ?_, ?_⟩
  ·intro y0 y1
   unfold asm_verb.j1
   repeat' first
   | (with_reducible exact ih0 _ _)
   | (with_reducible exact ih1 _ _ _)
   | (with_reducible exact ih2 _ _ _)
   | (with_reducible exact ih3 _ _)
   | (with_reducible exact LeO.refl _)
   | (with_reducible exact LeO.none _)
   | (with_reducible refine LeO.ite ?_ ?_)
   | (with_reducible refine LeO.bind ?_ (fun _ => ?_))
   | refine LeO.ite ?_ ?_
   | refine LeO.bind ?_ (fun _ => ?_)
  ·intro y0 y1 y2
   unfold asm_verb.l1
   repeat' first
   | (with_reducible exact ih0 _ _)
   | (with_reducible exact ih1 _ _ _)
   | (with_reducible exact ih2 _ _ _)
   | (with_reducible exact ih3 _ _)
   | (with_reducible exact LeO.refl _)
   | (with_reducible exact LeO.none _)
   | (with_reducible refine LeO.ite ?_ ?_)
   | (with_reducible refine LeO.bind ?_ (fun _ => ?_))
   | refine LeO.ite ?_ ?_
   | refine LeO.bind ?_ (fun _ => ?_)
  ·intro y0 y1 y2
   unfold asm_verb.l2
   repeat' first
   | (with_reducible exact ih0 _ _)
   | (with_reducible exact ih1 _ _ _)
   | (with_reducible exact ih2 _ _ _)
   | (with_reducible exact ih3 _ _)
   | (with_reducible exact LeO.refl _)
   | (with_reducible exact LeO.none _)
   | (with_reducible refine LeO.ite ?_ ?_)
   | (with_reducible refine LeO.bind ?_ (fun _ => ?_))
   | refine LeO.ite ?_ ?_
   | refine LeO.bind ?_ (fun _ => ?_)
  ·intro y0 y1
   unfold asm_verb.l0
   repeat' first
   | (with_reducible exact ih0 _ _)
   | (with_reducible exact ih1 _ _ _)
   | (with_reducible exact ih2 _ _ _)
   | (with_reducible exact ih3 _ _)
   | (with_reducible exact LeO.refl _)
   | (with_reducible exact LeO.none _)
   | (with_reducible refine LeO.ite ?_ ?_)
   | (with_reducible refine LeO.bind ?_ (fun _ => ?_))
   | refine LeO.ite ?_ ?_
   | refine LeO.bind ?_ (fun _ => ?_)
theorem asm_verb.mono : ∀ a0 k, LeO (asm_verb.f k a0) (asm_verb.f (k + 1) a0) := by
 intro a0 k
 obtain ⟨ih0, ih1, ih2, ih3⟩ := asm_verb.mono_l k
 unfold asm_verb.f
 repeat' first
   | (with_reducible exact ih0 _ _)
   | (with_reducible exact ih1 _ _ _)
   | (with_reducible exact ih2 _ _ _)
   | (with_reducible exact ih3 _ _)
   | (with_reducible exact LeO.refl _)
   | (with_reducible exact LeO.none _)
   | (with_reducible refine LeO.ite ?_ ?_)
   | (with_reducible refine LeO.bind ?_ (fun _ => ?_))
   | refine LeO.ite ?_ ?_
   | refine LeO.bind ?_ (fun _ => ?_)
set_option maxHeartbeats 8000000 in
set_option maxRecDepth 100000 in
theorem asm_verb.both (k : Nat) (a0 : ByteArray) (r1 : Int) (r2 : Int) (r3 : Int) (r4 : Bool) (r5 : Bool) (w : World) (hrG0 : Kd.C Kd.string w (some ⟨0, 0, none⟩) gl0.length gl0) (hrG1 : Kd.C Kd.string w (some ⟨1, 0, none⟩) gl1.length gl1) (hrG3 : Kd.C kGF w (some ⟨3, 0, none⟩) gl3.length gl3) (h : asm_verb.f k a0 = some (r1, r2, r3, r4, r5)) :
  Calls Tryd.prog 50 #[.string a0] w fun e w' => (r1 = (-1) ∧ Bad e ∨ r1 ≠ (-1) ∧ e = .returned (.agg #[.int .i64 r1, .int .i64 r2, .int .i64 r3, .bool r4, .bool r5])) ∧ Below w.heap.size w w' := by
 have hu49 := Tryd.underlying49
 have HRG0 := Aside0.mk hrG0
 clear hrG0
 have HRG1 := Aside0.mk hrG1
 clear hrG1
 have HRG3 := Aside0.mk hrG3
 clear hrG3
 have HB := Aside0.mk (Below.refl w.heap.size w)
 have H : ((asm_whole.f a0).bind fun t196 => (if t196 > 0 then (some (t196, 0, 0, false, false)) else (asm_verb.l0 k a0 (a0.size : Int)))) = some (r1, r2, r3, r4, r5) := h
 clear h
 obtain ⟨t196, A2, H⟩ := bs_ H; try dsimp only at H
 by_cases c3 : t196 > 0
 ·rw [if_pos c3] at H
  have c3b0 : decide (0 < t196) = true := decide_eq_true c3
  clear c3
  obtain ⟨rfl, rfl, rfl, rfl, rfl⟩ := pi5 H
  go_enter Tryd.func50, Tryd.ntmps50
  go_wp2_with (first | ((with_reducible refine gate_dst (N := 2) rfl ?_); refine sh_box 2 #[.int .i64 0, .int .i64 0, .int .i64 0, .bool false, .bool false] 49 ?_; intro gb195 hg w4 hbox hb; have GE195 := sh_z (w := w) hg; replace HB := sh_b (w := w) hb; have BK195 := Aside0.mk (hbox); clear hb hbox hg) | ((with_reducible refine gate_callee (f := 69) rfl ?_); refine sh_call (some 12) Tryd.func69 #[.string a0] ?_; (with_reducible refine (asm_whole.calls a0 t196 _ A2.out).mono ?_); rintro e w' ⟨rfl, ⟨nd, rfl⟩⟩; refine ⟨_, rfl, ?_⟩; (try (rw [drewN_self w4]; generalize hq_ : World.drewN w4 _ = w4; have n0_ : Aside0 (w4.heap[gb195]? = some (.cells #[.int .i64 0, .int .i64 0, .int .i64 0, .bool false, .bool false] 49 (0, 0))) := ⟨by rw [← hq_]; exact bk_now⟩; have n1_ : Aside0 (Below w.heap.size w w4) := ⟨by rw [← hq_]; exact b_now⟩; clear BK195 HB hq_; have BK195 := n0_; have HB := n1_; clear n0_ n1_)); have hcz5 := blk_all5 BK195.out))
  refine bodyPost_ret (results_cell_row rfl _ _ gb195 49 #[.int .i64 t196, .int .i64 0, .int .i64 0, .bool false, .bool false] (0, 0) _ rfl bk_now Tryd.underlying49 rfl (by kernel_rfl)) rfl ?_
  first | exact ⟨.inr ⟨by first | decide | assumption | exact ne_pos_ (by assumption) | (simp; done) | omega, ret_now⟩, b_now⟩ | exact ⟨ret_now, b_now⟩
 ·rw [if_neg c3] at H
  have c3b0 : decide (0 < t196) = false := decide_eq_false c3
  clear c3
  have HC6 := Aside0.mk H
  clear H
  go_enter Tryd.func50, Tryd.ntmps50
  go_upto_block 0 with (first | ((with_reducible refine gate_dst (N := 2) rfl ?_); refine sh_box 2 #[.int .i64 0, .int .i64 0, .int .i64 0, .bool false, .bool false] 49 ?_; intro gb195 hg w7 hbox hb; have GE195 := sh_z (w := w) hg; replace HB := sh_b (w := w) hb; have BK195 := Aside0.mk (hbox); clear hb hbox hg) | ((with_reducible refine gate_callee (f := 69) rfl ?_); refine sh_call (some 12) Tryd.func69 #[.string a0] ?_; (with_reducible refine (asm_whole.calls a0 t196 _ A2.out).mono ?_); rintro e w' ⟨rfl, ⟨nd, rfl⟩⟩; refine ⟨_, rfl, ?_⟩))
  (try simp only [Act.put, List.setIfInBounds_toArray, List.set_cons_zero, List.set_cons_succ])
  go_cut [4] (fun v4 wc => ∃ (kq : Nat) (x4_5 : Int), v4 = .int .i64 x4_5 ∧ Aside0 (asm_verb.j1 kq a0 x4_5 = some (r1, r2, r3, r4, r5)) ∧ Aside0 (kq ≤ k) ∧ Aside0 (wc.heap[gb195]? = some (.cells #[.int .i64 0, .int .i64 0, .int .i64 0, .bool false, .bool false] 49 (0, 0))) ∧ Aside0 (Below w.heap.size w wc))
  case first =>
   have H := HC6.out
   clear HC6
   have H' := Aside0.mk H
   clear H
   go_wp2
   go_loopg [4] k (fun kq v4 w' => ∃ (x4_1 : Int), v4 = .int .i64 x4_1 ∧ Aside0 (asm_verb.l0 kq a0 x4_1 = some (r1, r2, r3, r4, r5)) ∧ Aside0 (kq ≤ k) ∧ Aside0 (w'.heap[gb195]? = some (.cells #[.int .i64 0, .int .i64 0, .int .i64 0, .bool false, .bool false] 49 (0, 0))) ∧ Aside0 (Below w.heap.size w w'))
   case atStart => exact ⟨((a0.size : Int)), eq_now, H', ⟨Nat.le_refl _⟩, ⟨bk_now⟩, ⟨b_now⟩⟩
   case round =>
    clear H'
    clear c3b0
    obtain ⟨x4_1, rfl, HA, HK1, BK195, HB⟩ := hrel
    cases gk with
    | zero => exact absurd HA.out (by simp [asm_verb.l0])
    | succ k1 =>
     have H := HA.out
     clear HA
     simp only [asm_verb.l0] at H
     by_cases c8 : x4_1 > 0
     ·rw [if_pos c8] at H
      have c8b0 : decide (0 < x4_1) = true := decide_eq_true c8
      clear c8
      (first | rw [c8b0] | (simp only [i64_w, i32_w]; rw [c8b0]) | skip)
      obtain ⟨ji9, hji9⟩ : ∃ j_ : Int, (wrap64 (x4_1 - 1)) = j_ := ⟨_, rfl⟩
      replace H : (if 0 ≤ (ji9) then (if (ji9) < (a0.size : Int) then (if (bt a0 (ji9)) ≥ 48 then (if (bt a0 (ji9)) ≤ 57 then (asm_verb.l0 k1 a0 ji9) else (asm_verb.j1 k1 a0 x4_1)) else (asm_verb.j1 k1 a0 x4_1)) else (none)) else (none)) = some (r1, r2, r3, r4, r5) := by first | (rw [hji9] at H; exact H) | (simp only [hji9] at H ⊢; exact H)
      have hji9w : (IntKind.i64.wrap (x4_1 - 1)) = ji9 := (i64_w _).trans hji9
      by_cases c10 : 0 ≤ (ji9)
      ·rw [if_pos c10] at H
       have c10b0 : decide (0 ≤ (ji9)) = true := decide_eq_true c10
       clear c10
       by_cases c11 : (ji9) < (a0.size : Int)
       ·rw [if_pos c11] at H
        have c11b0 : decide ((ji9) < (a0.size : Int)) = true := decide_eq_true c11
        clear c11
        by_cases c13 : (bt a0 (ji9)) ≥ 48
        ·rw [if_pos c13] at H
         have c13b0 : decide (48 ≤ (bt a0 (ji9))) = true := decide_eq_true c13
         clear c13
         by_cases c15 : (bt a0 (ji9)) ≤ 57
         ·rw [if_pos c15] at H
          have c15b0 : decide ((bt a0 (ji9)) ≤ 57) = true := decide_eq_true c15
          clear c15
          have H' := Aside0.mk H
          clear H
          have p12 : 0 ≤ ((ji9) : Int) := od_
          have q12 : (ji9) < (a0.size : Int) := od_
          have hx12 := bt_at a0 (ji9)
          replace p12 := eq_true p12
          replace q12 := eq_true q12
          have p14 : 0 ≤ ((ji9) : Int) := od_
          have q14 : (ji9) < (a0.size : Int) := od_
          have hx14 := bt_at a0 (ji9)
          replace p14 := eq_true p14
          replace q14 := eq_true q14
          go_wp2
          go_roundg k1
          case measure => have := HK1.out; omega
          case rel => exact ⟨(ji9), (by first | rfl | (simp; done) | (simp only [← hji9] <;> (first | rfl | simp)) | (simp [*]; done)), H', ⟨by have := HK1.out; omega⟩, ⟨bk_now⟩, ⟨b_now⟩⟩
         ·rw [if_neg c15] at H
          have c15b0 : decide ((bt a0 (ji9)) ≤ 57) = false := decide_eq_false c15
          clear c15
          have H' := Aside0.mk H
          clear H
          have p12 : 0 ≤ ((ji9) : Int) := od_
          have q12 : (ji9) < (a0.size : Int) := od_
          have hx12 := bt_at a0 (ji9)
          replace p12 := eq_true p12
          replace q12 := eq_true q12
          have p14 : 0 ≤ ((ji9) : Int) := od_
          have q14 : (ji9) < (a0.size : Int) := od_
          have hx14 := bt_at a0 (ji9)
          replace p14 := eq_true p14
          replace q14 := eq_true q14
          go_wp2
          go_meet
          case rel => exact ⟨_, (x4_1), eq_now, H', ⟨by have := HK1.out; first | omega | exact Nat.le_refl _⟩, ⟨bk_now⟩, ⟨b_now⟩⟩
        ·rw [if_neg c13] at H
         have c13b0 : decide (48 ≤ (bt a0 (ji9))) = false := decide_eq_false c13
         clear c13
         have H' := Aside0.mk H
         clear H
         have p12 : 0 ≤ ((ji9) : Int) := od_
         have q12 : (ji9) < (a0.size : Int) := od_
         have hx12 := bt_at a0 (ji9)
         replace p12 := eq_true p12
         replace q12 := eq_true q12
         go_wp2
         go_meet
         case rel => exact ⟨_, (x4_1), eq_now, H', ⟨by have := HK1.out; first | omega | exact Nat.le_refl _⟩, ⟨bk_now⟩, ⟨b_now⟩⟩
       ·rw [if_neg c11] at H
        exact absurd H (by simp)
      ·rw [if_neg c10] at H
       exact absurd H (by simp)
     ·rw [if_neg c8] at H
      have c8b0 : decide (0 < x4_1) = false := decide_eq_false c8
      clear c8
      (first | rw [c8b0] | (simp only [i64_w, i32_w]; rw [c8b0]) | skip)
      have H' := Aside0.mk H
      clear H
      go_wp2
      go_meet
      case rel => exact ⟨_, (x4_1), eq_now, H', ⟨by have := HK1.out; first | omega | exact Nat.le_refl _⟩, ⟨bk_now⟩, ⟨b_now⟩⟩
  case rest =>
   clear HC6
   clear c3b0
   obtain ⟨kq, x4_5, rfl, HA, HJ5, BK195, HB⟩ := hcut
   cases kq with
   | zero => exact absurd HA.out (by simp [asm_verb.j1])
   | succ kj5 =>
    have H := HA.out
    clear HA
    simp only [asm_verb.j1] at H
    by_cases c16 : 0 ≤ x4_5
    ·rw [if_pos c16] at H
     have c16b0 := eq_true c16
     have c16b1 : decide (0 ≤ x4_5) = true := decide_eq_true c16
     clear c16
     by_cases c17 : x4_5 ≤ (a0.size : Int)
     ·rw [if_pos c17] at H
      have c17b0 := eq_true c17
      have c17b1 : decide (x4_5 ≤ (a0.size : Int)) = true := decide_eq_true c17
      clear c17
      have c18b0 := eq_true (od_ : 0 ≤ x4_5)
      have c19b0 := eq_true (od_ : x4_5 ≤ (a0.size : Int))
      obtain ⟨t197, A20, H⟩ := bs_ H; try dsimp only at H
      by_cases c21 : t197 = 4611686018427387904
      ·rw [if_pos c21] at H
       obtain ⟨c21b0, c21b1⟩ := eqT c21
       clear c21
       obtain ⟨rfl, rfl, rfl, rfl, rfl⟩ := pi5 H
       go_wp2_with (first | ((with_reducible refine gate_callee (f := 55) rfl ?_); refine sh_callX Tryd.func55 #[.string (a0.extract (x4_5 : Int).toNat a0.size), .int .i64 8] ?_; (with_reducible refine (asm_number.bad (a0.extract (x4_5 : Int).toNat a0.size) 8 t197 _ ?side1 A20.out (beq_iff_eq.mp c21b0)).mono ?_); (case side1 => repeat (first | exact (Kd.C_below HRG3.out HB.out) | (with_reducible refine Kd.C_alloc ?_ _) | (with_reducible refine Kd.C_drewN ?_ _) | (with_reducible refine Kd.C_drew ?_))); rintro e w22 ⟨hbad, hb⟩; refine ⟨_, hbad, ?_⟩; replace HB := sh_b (w := w) hb))
       first | exact ⟨rfl, .inl ⟨by first | rfl | trivial, rfl⟩, b_now⟩ | exact ⟨rfl, rfl, b_now⟩
      ·rw [if_neg c21] at H
       obtain ⟨c21b0, c21b1⟩ := eqF c21
       have H' := Aside0.mk H
       clear H
       go_wp2_with (first | ((with_reducible refine gate_callee (f := 55) rfl ?_); refine sh_call (some 43) Tryd.func55 #[.string (a0.extract (x4_5 : Int).toNat a0.size), .int .i64 8] ?_; (with_reducible refine (asm_number.calls (a0.extract (x4_5 : Int).toNat a0.size) 8 t197 _ ?side1 A20.out).mono ?_); (case side1 => repeat (first | exact (Kd.C_below HRG3.out HB.out) | (with_reducible refine Kd.C_alloc ?_ _) | (with_reducible refine Kd.C_drewN ?_ _) | (with_reducible refine Kd.C_drew ?_))); rintro e w24 ⟨rfl, hb⟩; refine ⟨_, rfl, ?_⟩; replace BK195 := sh_k BK195 hb; replace HB := sh_b (w := w) hb; (try clear hb); (try clear hb2); (try clear hk); (try clear hi)))
       go_loopg [44] kj5 (fun kq v44 w' => ∃ (x44_2 : Int) (x196000_2 : Int) (x196001_2 : Int) (x196002_2 : Int) (x196003_2 : Bool) (x196004_2 : Bool), v44 = .int .i64 x44_2 ∧ Aside0 (asm_verb.l1 kq (a0.extract 0 (x4_5 : Int).toNat) t197 x44_2 = some (r1, r2, r3, r4, r5)) ∧ Aside0 (kq ≤ kj5) ∧ Aside0 (w'.heap[gb195]? = some (.cells #[.int .i64 x196000_2, .int .i64 x196001_2, .int .i64 x196002_2, .bool x196003_2, .bool x196004_2] 49 (0, 0))) ∧ Aside0 (Below w.heap.size w w'))
       case atStart => exact ⟨(0), (0), (0), (0), (false), (false), eq_now, H', ⟨Nat.le_refl _⟩, ⟨bk_now⟩, ⟨b_now⟩⟩
       case round =>
        clear H'
        clear c16b0 c16b1 c17b0 c17b1 c18b0 c19b0 c21 c21b0 c21b1
        obtain ⟨x44_2, x196000_2, x196001_2, x196002_2, x196003_2, x196004_2, rfl, HA, HK2, BK195, HB⟩ := hrel
        cases gk with
        | zero => exact absurd HA.out (by simp [asm_verb.l1])
        | succ k2 =>
         have H := HA.out
         clear HA
         simp only [asm_verb.l1] at H
         by_cases c25 : x44_2 < 13
         ·rw [if_pos c25] at H
          have c25b0 : decide (x44_2 < 13) = true := decide_eq_true c25
          clear c25
          by_cases c26 : 0 ≤ x44_2
          ·rw [if_pos c26] at H
           have c26b0 : decide (0 ≤ x44_2) = true := decide_eq_true c26
           clear c26
           by_cases c27 : (rdOf ByteArray.empty gl0 x44_2).toList = (a0.extract 0 (x4_5 : Int).toNat).toList
           ·rw [if_pos c27] at H
            obtain ⟨c27b0, c27b1⟩ := eqT c27
            clear c27
            obtain ⟨rfl, rfl, rfl, rfl, rfl⟩ := pi5 H
            have p198 : 0 ≤ (x44_2 : Int) := od_
            have q198 : x44_2 < (gl0.length : Int) := od_
            have ql198 : ((x44_2 : Int) < (13 : Int)) = True := eq_true (od_)
            obtain ⟨ad198, e198, hx198_0⟩ := Kd.at_string HRG0.out x44_2 p198 q198
            obtain rfl : (⟨0, 0, none⟩ : Addr) = ad198 := (by injection e198)
            (first | simp only [add_plain] at hx198_0 | simp only [add_at] at hx198_0 | simp only [Addr.add, Nat.zero_add] at hx198_0 | skip)
            replace hx198_0 := (HB.out.cell (World.block_lt_of_cell? w _ hx198_0)).trans hx198_0
            replace p198 := eq_true p198
            replace q198 := eq_true q198
            have hcz28 := blk_all5 BK195.out
            go_wp2
            refine bodyPost_ret (results_cell_row rfl _ _ gb195 49 #[.int .i64 1, .int .i64 x44_2, .int .i64 0, .bool (t197 == 64), .bool false] (0, 0) _ rfl bk_now Tryd.underlying49 rfl (by kernel_rfl)) rfl ?_
            first | exact ⟨.inr ⟨by first | decide | assumption | exact ne_pos_ (by assumption) | (simp; done) | omega, ret_now⟩, b_now⟩ | exact ⟨ret_now, b_now⟩
           ·rw [if_neg c27] at H
            obtain ⟨c27b0, c27b1⟩ := eqF c27
            have H' := Aside0.mk H
            clear H
            have p198 : 0 ≤ (x44_2 : Int) := od_
            have q198 : x44_2 < (gl0.length : Int) := od_
            have ql198 : ((x44_2 : Int) < (13 : Int)) = True := eq_true (od_)
            obtain ⟨ad198, e198, hx198_0⟩ := Kd.at_string HRG0.out x44_2 p198 q198
            obtain rfl : (⟨0, 0, none⟩ : Addr) = ad198 := (by injection e198)
            (first | simp only [add_plain] at hx198_0 | simp only [add_at] at hx198_0 | simp only [Addr.add, Nat.zero_add] at hx198_0 | skip)
            replace hx198_0 := (HB.out.cell (World.block_lt_of_cell? w _ hx198_0)).trans hx198_0
            replace p198 := eq_true p198
            replace q198 := eq_true q198
            go_wp2
            go_roundg k2
            case measure => have := HJ5.out; have := HK2.out; omega
            case rel => exact ⟨(wrap64 (x44_2 + 1)), (x196000_2), (x196001_2), (x196002_2), (x196003_2), (x196004_2), eq_now, H', ⟨by have := HJ5.out; have := HK2.out; omega⟩, ⟨bk_now⟩, ⟨b_now⟩⟩
          ·rw [if_neg c26] at H
           exact absurd H (by simp)
         ·rw [if_neg c25] at H
          have c25b0 : decide (x44_2 < 13) = false := decide_eq_false c25
          clear c25
          have H' := Aside0.mk H
          clear H
          go_wp2
          go_loopg [57] k2 (fun kq v57 w' => ∃ (x57_3 : Int) (x196000_3 : Int) (x196001_3 : Int) (x196002_3 : Int) (x196003_3 : Bool) (x196004_3 : Bool), v57 = .int .i64 x57_3 ∧ Aside0 (asm_verb.l2 kq (a0.extract 0 (x4_5 : Int).toNat) t197 x57_3 = some (r1, r2, r3, r4, r5)) ∧ Aside0 (kq ≤ k2) ∧ Aside0 (w'.heap[gb195]? = some (.cells #[.int .i64 x196000_3, .int .i64 x196001_3, .int .i64 x196002_3, .bool x196003_3, .bool x196004_3] 49 (0, 0))) ∧ Aside0 (Below w.heap.size w w'))
          case atStart => exact ⟨(0), (x196000_2), (x196001_2), (x196002_2), (x196003_2), (x196004_2), eq_now, H', ⟨Nat.le_refl _⟩, ⟨bk_now⟩, ⟨b_now⟩⟩
          case round =>
           clear H'
           clear c25b0
           obtain ⟨x57_3, x196000_3, x196001_3, x196002_3, x196003_3, x196004_3, rfl, HA, HK3, BK195, HB⟩ := hrel
           cases gk with
           | zero => exact absurd HA.out (by simp [asm_verb.l2])
           | succ k3 =>
            have H := HA.out
            clear HA
            simp only [asm_verb.l2] at H
            by_cases c29 : x57_3 < 14
            ·rw [if_pos c29] at H
             have c29b0 : decide (x57_3 < 14) = true := decide_eq_true c29
             clear c29
             by_cases c30 : 0 ≤ x57_3
             ·rw [if_pos c30] at H
              have c30b0 : decide (0 ≤ x57_3) = true := decide_eq_true c30
              clear c30
              by_cases c31 : (rdOf ByteArray.empty gl1 x57_3).toList = (a0.extract 0 (x4_5 : Int).toNat).toList
              ·rw [if_pos c31] at H
               obtain ⟨c31b0, c31b1⟩ := eqT c31
               clear c31
               by_cases c32 : (a0.extract 0 (x4_5 : Int).toNat).toList = ([] : List UInt8)
               ·rw [if_pos c32] at H
                obtain ⟨c32b0, c32b1⟩ := eqT c32
                clear c32
                have H' := Aside0.mk H
                clear H
                have p199 : 0 ≤ (x57_3 : Int) := od_
                have q199 : x57_3 < (gl1.length : Int) := od_
                have ql199 : ((x57_3 : Int) < (14 : Int)) = True := eq_true (od_)
                obtain ⟨ad199, e199, hx199_0⟩ := Kd.at_string HRG1.out x57_3 p199 q199
                obtain rfl : (⟨1, 0, none⟩ : Addr) = ad199 := (by injection e199)
                (first | simp only [add_plain] at hx199_0 | simp only [add_at] at hx199_0 | simp only [Addr.add, Nat.zero_add] at hx199_0 | skip)
                replace hx199_0 := (HB.out.cell (World.block_lt_of_cell? w _ hx199_0)).trans hx199_0
                replace p199 := eq_true p199
                replace q199 := eq_true q199
                go_wp2
                go_roundg k3
                case measure => have := HJ5.out; have := HK2.out; have := HK3.out; omega
                case rel => exact ⟨(wrap64 (x57_3 + 1)), (x196000_3), (x196001_3), (x196002_3), (x196003_3), (x196004_3), eq_now, H', ⟨by have := HJ5.out; have := HK2.out; have := HK3.out; omega⟩, ⟨bk_now⟩, ⟨b_now⟩⟩
               ·rw [if_neg c32] at H
                obtain ⟨c32b0, c32b1⟩ := eqF c32
                obtain ⟨rfl, rfl, rfl, rfl, rfl⟩ := pi5 H
                have p199 : 0 ≤ (x57_3 : Int) := od_
                have q199 : x57_3 < (gl1.length : Int) := od_
                have ql199 : ((x57_3 : Int) < (14 : Int)) = True := eq_true (od_)
                obtain ⟨ad199, e199, hx199_0⟩ := Kd.at_string HRG1.out x57_3 p199 q199
                obtain rfl : (⟨1, 0, none⟩ : Addr) = ad199 := (by injection e199)
                (first | simp only [add_plain] at hx199_0 | simp only [add_at] at hx199_0 | simp only [Addr.add, Nat.zero_add] at hx199_0 | skip)
                replace hx199_0 := (HB.out.cell (World.block_lt_of_cell? w _ hx199_0)).trans hx199_0
                replace p199 := eq_true p199
                replace q199 := eq_true q199
                have hcz33 := blk_all5 BK195.out
                go_wp2
                refine bodyPost_ret (results_cell_row rfl _ _ gb195 49 #[.int .i64 6, .int .i64 x57_3, .int .i64 0, .bool (t197 == 64), .bool false] (0, 0) _ rfl bk_now Tryd.underlying49 rfl (by kernel_rfl)) rfl ?_
                first | exact ⟨.inr ⟨by first | decide | assumption | exact ne_pos_ (by assumption) | (simp; done) | omega, ret_now⟩, b_now⟩ | exact ⟨ret_now, b_now⟩
              ·rw [if_neg c31] at H
               obtain ⟨c31b0, c31b1⟩ := eqF c31
               have H' := Aside0.mk H
               clear H
               have p199 : 0 ≤ (x57_3 : Int) := od_
               have q199 : x57_3 < (gl1.length : Int) := od_
               have ql199 : ((x57_3 : Int) < (14 : Int)) = True := eq_true (od_)
               obtain ⟨ad199, e199, hx199_0⟩ := Kd.at_string HRG1.out x57_3 p199 q199
               obtain rfl : (⟨1, 0, none⟩ : Addr) = ad199 := (by injection e199)
               (first | simp only [add_plain] at hx199_0 | simp only [add_at] at hx199_0 | simp only [Addr.add, Nat.zero_add] at hx199_0 | skip)
               replace hx199_0 := (HB.out.cell (World.block_lt_of_cell? w _ hx199_0)).trans hx199_0
               replace p199 := eq_true p199
               replace q199 := eq_true q199
               go_wp2
               go_roundg k3
               case measure => have := HJ5.out; have := HK2.out; have := HK3.out; omega
               case rel => exact ⟨(wrap64 (x57_3 + 1)), (x196000_3), (x196001_3), (x196002_3), (x196003_3), (x196004_3), eq_now, H', ⟨by have := HJ5.out; have := HK2.out; have := HK3.out; omega⟩, ⟨bk_now⟩, ⟨b_now⟩⟩
             ·rw [if_neg c30] at H
              exact absurd H (by simp)
            ·rw [if_neg c29] at H
             have c29b0 : decide (x57_3 < 14) = false := decide_eq_false c29
             clear c29
             obtain ⟨⟨t200, t201, t202, t203, t204⟩, A34, H⟩ := bs_ H; try dsimp only at H
             obtain ⟨rfl, rfl, rfl, rfl, rfl⟩ := pi5 H
             have hu132 := Tryd.underlying132
             go_wp2_with (first | ((with_reducible refine gate_dst (N := 9) rfl ?_); refine sh_box 9 #[.string (⟨#[]⟩ : ByteArray), .string (⟨#[]⟩ : ByteArray), .string (⟨#[]⟩ : ByteArray), .string (⟨#[]⟩ : ByteArray)] 132 ?_; intro gb9 hg w9 hbox hb; have GE9 := sh_z (w := w) hg; have NB195_9 := sh_n BK195 hg; have NB9_195 := sh_s NB195_9; replace BK195 := sh_k BK195 hb; replace HB := sh_b (w := w) hb; have BK9 := Aside0.mk (hbox); clear hb hbox hg; have z9 := blk_all4 BK9.out; obtain ⟨hnb9, hnc9⟩ := nb_ NB9_195))
             go_loopg [75] 5 (fun kq v75 w' => ∃ (j_ : Int), v75 = .int .i64 j_ ∧ Aside0 ((kq : Int) + j_ = 5) ∧ Aside0 (0 ≤ j_ ∧ j_ ≤ 4) ∧ Aside0 (∀ i : Nat, (i : Int) < j_ → ([[115, 119, 97, 112], [108, 111, 97, 100], [115, 116, 111, 114, 101], [112, 117, 116]] : List (List UInt8)).getD i [] ≠ (a0.extract 0 (x4_5 : Int).toNat).toList) ∧ Aside0 (w'.heap[gb195]? = some (.cells #[.int .i64 x196000_3, .int .i64 x196001_3, .int .i64 x196002_3, .bool x196003_3, .bool x196004_3] 49 (0, 0))) ∧ Aside0 (w'.heap[gb9]? = some (.cells #[.string (⟨#[115, 119, 97, 112]⟩ : ByteArray), .string (⟨#[108, 111, 97, 100]⟩ : ByteArray), .string (⟨#[115, 116, 111, 114, 101]⟩ : ByteArray), .string (⟨#[112, 117, 116]⟩ : ByteArray)] 132 (0, 0))) ∧ Aside0 (Below w.heap.size w w'))
             case atStart => exact ⟨0, eq_now, ⟨rfl⟩, ⟨by omega⟩, ⟨fun i hi => absurd hi (by omega)⟩, ⟨bk_now⟩, ⟨bk_now⟩, ⟨b_now⟩⟩
             case round =>
              clear BK195 BK9 HB
              obtain ⟨j_, rfl, HJ_, HL_, HS_, BK195, BK9, HB⟩ := hrel
              cases gk with
              | zero => exact absurd (HJ_.out) (by have := HL_.out; omega)
              | succ g1 =>
               have z9 := blk_all4 BK9.out
               have z195 := blk_all5 BK195.out
               have hj_ : j_ = 0 ∨ j_ = 1 ∨ j_ = 2 ∨ j_ = 3 ∨ j_ = 4 := by have := HL_.out; omega
               rcases hj_ with rfl | rfl | rfl | rfl | rfl
               ·by_cases c_ : ([115, 119, 97, 112] : List UInt8) = (a0.extract 0 (x4_5 : Int).toNat).toList
                ·have cb0_ : (([115, 119, 97, 112] : List UInt8) == (a0.extract 0 (x4_5 : Int).toNat).toList) = true := beq_iff_eq.mpr c_
                 have cb1_ : ((⟨#[115, 119, 97, 112]⟩ : ByteArray).toList == (a0.extract 0 (x4_5 : Int).toNat).toList) = true := by rw [show (⟨#[115, 119, 97, 112]⟩ : ByteArray).toList = [115, 119, 97, 112] from by kernel_rfl]; exact cb0_
                 have e_ : stringslite_Cut.f (a0.extract 0 (x4_5 : Int).toNat) t197 = some (2, 0, wrap64 (Int.tdiv t197 8), false, false) := by unfold stringslite_Cut.f; rw [← c_]; rfl
                 have e2_ := e_.symm.trans A34.out
                 simp only [Option.some.injEq, Prod.mk.injEq] at e2_
                 obtain ⟨rfl, rfl, rfl, rfl, rfl⟩ := e2_
                 clear c_
                 go_wp2
                 refine bodyPost_ret (results_cell_row rfl _ _ gb195 49 #[.int .i64 2, .int .i64 0, .int .i64 (wrap64 (Int.tdiv t197 8)), .bool false, .bool false] (0, 0) _ rfl bk_now Tryd.underlying49 rfl (by kernel_rfl)) rfl ?_
                 first | exact ⟨.inr ⟨by decide, ret_now⟩, b_now⟩ | exact ⟨ret_now, b_now⟩
                ·have cb0_ : (([115, 119, 97, 112] : List UInt8) == (a0.extract 0 (x4_5 : Int).toNat).toList) = false := beq_eq_false_iff_ne.mpr c_
                 have cb1_ : ((⟨#[115, 119, 97, 112]⟩ : ByteArray).toList == (a0.extract 0 (x4_5 : Int).toNat).toList) = false := by rw [show (⟨#[115, 119, 97, 112]⟩ : ByteArray).toList = [115, 119, 97, 112] from by kernel_rfl]; exact cb0_
                 have hs_ : Aside0 (∀ i : Nat, (i : Int) < 1 → ([[115, 119, 97, 112], [108, 111, 97, 100], [115, 116, 111, 114, 101], [112, 117, 116]] : List (List UInt8)).getD i [] ≠ (a0.extract 0 (x4_5 : Int).toNat).toList) := ⟨fun i hi => by
                  by_cases hl_ : (i : Int) < 0
                  ·exact HS_.out i hl_
                  ·obtain rfl : i = 0 := by omega
                   exact c_⟩
                 clear c_
                 go_wp2
                 go_roundg g1
                 case measure => omega
                 case rel => exact ⟨1, eq_now, ⟨by have := HJ_.out; omega⟩, ⟨by omega⟩, hs_, ⟨bk_now⟩, ⟨bk_now⟩, ⟨b_now⟩⟩
               ·by_cases c_ : ([108, 111, 97, 100] : List UInt8) = (a0.extract 0 (x4_5 : Int).toNat).toList
                ·have cb0_ : (([108, 111, 97, 100] : List UInt8) == (a0.extract 0 (x4_5 : Int).toNat).toList) = true := beq_iff_eq.mpr c_
                 have cb1_ : ((⟨#[108, 111, 97, 100]⟩ : ByteArray).toList == (a0.extract 0 (x4_5 : Int).toNat).toList) = true := by rw [show (⟨#[108, 111, 97, 100]⟩ : ByteArray).toList = [108, 111, 97, 100] from by kernel_rfl]; exact cb0_
                 have e_ : stringslite_Cut.f (a0.extract 0 (x4_5 : Int).toNat) t197 = some (3, 0, wrap64 (Int.tdiv t197 8), false, false) := by unfold stringslite_Cut.f; rw [← c_]; rfl
                 have e2_ := e_.symm.trans A34.out
                 simp only [Option.some.injEq, Prod.mk.injEq] at e2_
                 obtain ⟨rfl, rfl, rfl, rfl, rfl⟩ := e2_
                 clear c_
                 go_wp2
                 refine bodyPost_ret (results_cell_row rfl _ _ gb195 49 #[.int .i64 3, .int .i64 0, .int .i64 (wrap64 (Int.tdiv t197 8)), .bool false, .bool false] (0, 0) _ rfl bk_now Tryd.underlying49 rfl (by kernel_rfl)) rfl ?_
                 first | exact ⟨.inr ⟨by decide, ret_now⟩, b_now⟩ | exact ⟨ret_now, b_now⟩
                ·have cb0_ : (([108, 111, 97, 100] : List UInt8) == (a0.extract 0 (x4_5 : Int).toNat).toList) = false := beq_eq_false_iff_ne.mpr c_
                 have cb1_ : ((⟨#[108, 111, 97, 100]⟩ : ByteArray).toList == (a0.extract 0 (x4_5 : Int).toNat).toList) = false := by rw [show (⟨#[108, 111, 97, 100]⟩ : ByteArray).toList = [108, 111, 97, 100] from by kernel_rfl]; exact cb0_
                 have hs_ : Aside0 (∀ i : Nat, (i : Int) < 2 → ([[115, 119, 97, 112], [108, 111, 97, 100], [115, 116, 111, 114, 101], [112, 117, 116]] : List (List UInt8)).getD i [] ≠ (a0.extract 0 (x4_5 : Int).toNat).toList) := ⟨fun i hi => by
                  by_cases hl_ : (i : Int) < 1
                  ·exact HS_.out i hl_
                  ·obtain rfl : i = 1 := by omega
                   exact c_⟩
                 clear c_
                 go_wp2
                 go_roundg g1
                 case measure => omega
                 case rel => exact ⟨2, eq_now, ⟨by have := HJ_.out; omega⟩, ⟨by omega⟩, hs_, ⟨bk_now⟩, ⟨bk_now⟩, ⟨b_now⟩⟩
               ·by_cases c_ : ([115, 116, 111, 114, 101] : List UInt8) = (a0.extract 0 (x4_5 : Int).toNat).toList
                ·have cb0_ : (([115, 116, 111, 114, 101] : List UInt8) == (a0.extract 0 (x4_5 : Int).toNat).toList) = true := beq_iff_eq.mpr c_
                 have cb1_ : ((⟨#[115, 116, 111, 114, 101]⟩ : ByteArray).toList == (a0.extract 0 (x4_5 : Int).toNat).toList) = true := by rw [show (⟨#[115, 116, 111, 114, 101]⟩ : ByteArray).toList = [115, 116, 111, 114, 101] from by kernel_rfl]; exact cb0_
                 have e_ : stringslite_Cut.f (a0.extract 0 (x4_5 : Int).toNat) t197 = some (4, 0, wrap64 (Int.tdiv t197 8), false, false) := by unfold stringslite_Cut.f; rw [← c_]; rfl
                 have e2_ := e_.symm.trans A34.out
                 simp only [Option.some.injEq, Prod.mk.injEq] at e2_
                 obtain ⟨rfl, rfl, rfl, rfl, rfl⟩ := e2_
                 clear c_
                 go_wp2
                 refine bodyPost_ret (results_cell_row rfl _ _ gb195 49 #[.int .i64 4, .int .i64 0, .int .i64 (wrap64 (Int.tdiv t197 8)), .bool false, .bool false] (0, 0) _ rfl bk_now Tryd.underlying49 rfl (by kernel_rfl)) rfl ?_
                 first | exact ⟨.inr ⟨by decide, ret_now⟩, b_now⟩ | exact ⟨ret_now, b_now⟩
                ·have cb0_ : (([115, 116, 111, 114, 101] : List UInt8) == (a0.extract 0 (x4_5 : Int).toNat).toList) = false := beq_eq_false_iff_ne.mpr c_
                 have cb1_ : ((⟨#[115, 116, 111, 114, 101]⟩ : ByteArray).toList == (a0.extract 0 (x4_5 : Int).toNat).toList) = false := by rw [show (⟨#[115, 116, 111, 114, 101]⟩ : ByteArray).toList = [115, 116, 111, 114, 101] from by kernel_rfl]; exact cb0_
                 have hs_ : Aside0 (∀ i : Nat, (i : Int) < 3 → ([[115, 119, 97, 112], [108, 111, 97, 100], [115, 116, 111, 114, 101], [112, 117, 116]] : List (List UInt8)).getD i [] ≠ (a0.extract 0 (x4_5 : Int).toNat).toList) := ⟨fun i hi => by
                  by_cases hl_ : (i : Int) < 2
                  ·exact HS_.out i hl_
                  ·obtain rfl : i = 2 := by omega
                   exact c_⟩
                 clear c_
                 go_wp2
                 go_roundg g1
                 case measure => omega
                 case rel => exact ⟨3, eq_now, ⟨by have := HJ_.out; omega⟩, ⟨by omega⟩, hs_, ⟨bk_now⟩, ⟨bk_now⟩, ⟨b_now⟩⟩
               ·by_cases c_ : ([112, 117, 116] : List UInt8) = (a0.extract 0 (x4_5 : Int).toNat).toList
                ·have cb0_ : (([112, 117, 116] : List UInt8) == (a0.extract 0 (x4_5 : Int).toNat).toList) = true := beq_iff_eq.mpr c_
                 have cb1_ : ((⟨#[112, 117, 116]⟩ : ByteArray).toList == (a0.extract 0 (x4_5 : Int).toNat).toList) = true := by rw [show (⟨#[112, 117, 116]⟩ : ByteArray).toList = [112, 117, 116] from by kernel_rfl]; exact cb0_
                 have e_ : stringslite_Cut.f (a0.extract 0 (x4_5 : Int).toNat) t197 = some (5, 0, wrap64 (Int.tdiv t197 8), false, false) := by unfold stringslite_Cut.f; rw [← c_]; rfl
                 have e2_ := e_.symm.trans A34.out
                 simp only [Option.some.injEq, Prod.mk.injEq] at e2_
                 obtain ⟨rfl, rfl, rfl, rfl, rfl⟩ := e2_
                 clear c_
                 go_wp2
                 refine bodyPost_ret (results_cell_row rfl _ _ gb195 49 #[.int .i64 5, .int .i64 0, .int .i64 (wrap64 (Int.tdiv t197 8)), .bool false, .bool false] (0, 0) _ rfl bk_now Tryd.underlying49 rfl (by kernel_rfl)) rfl ?_
                 first | exact ⟨.inr ⟨by decide, ret_now⟩, b_now⟩ | exact ⟨ret_now, b_now⟩
                ·have cb0_ : (([112, 117, 116] : List UInt8) == (a0.extract 0 (x4_5 : Int).toNat).toList) = false := beq_eq_false_iff_ne.mpr c_
                 have cb1_ : ((⟨#[112, 117, 116]⟩ : ByteArray).toList == (a0.extract 0 (x4_5 : Int).toNat).toList) = false := by rw [show (⟨#[112, 117, 116]⟩ : ByteArray).toList = [112, 117, 116] from by kernel_rfl]; exact cb0_
                 have hs_ : Aside0 (∀ i : Nat, (i : Int) < 4 → ([[115, 119, 97, 112], [108, 111, 97, 100], [115, 116, 111, 114, 101], [112, 117, 116]] : List (List UInt8)).getD i [] ≠ (a0.extract 0 (x4_5 : Int).toNat).toList) := ⟨fun i hi => by
                  by_cases hl_ : (i : Int) < 3
                  ·exact HS_.out i hl_
                  ·obtain rfl : i = 3 := by omega
                   exact c_⟩
                 clear c_
                 go_wp2
                 go_roundg g1
                 case measure => omega
                 case rel => exact ⟨4, eq_now, ⟨by have := HJ_.out; omega⟩, ⟨by omega⟩, hs_, ⟨bk_now⟩, ⟨bk_now⟩, ⟨b_now⟩⟩
               ·have e_ : stringslite_Cut.f (a0.extract 0 (x4_5 : Int).toNat) t197 = some (-1, 0, 0, false, false) := by
                 unfold stringslite_Cut.f
                 rw [if_neg (fun e => HS_.out 0 (by omega) e.symm), if_neg (fun e => HS_.out 1 (by omega) e.symm), if_neg (fun e => HS_.out 2 (by omega) e.symm), if_neg (fun e => HS_.out 3 (by omega) e.symm)]
                have e2_ := e_.symm.trans A34.out
                simp only [Option.some.injEq, Prod.mk.injEq] at e2_
                obtain ⟨rfl, rfl, rfl, rfl, rfl⟩ := e2_
                go_wp2
                first | exact ⟨rfl, .inl ⟨by first | rfl | trivial, rfl⟩, b_now⟩ | exact ⟨rfl, rfl, b_now⟩
     ·rw [if_neg c17] at H
      exact absurd H (by simp)
    ·rw [if_neg c16] at H
     exact absurd H (by simp)

-- NOT PRINTED: function 95 (utf8_RuneCountInString)

-- NOT PRINTED: function 100 (utf8_decodeRuneInStringSlow)

-- NOT PRINTED: function 96 (utf8_DecodeRuneInString)

-- NOT PRINTED: function 83 (strings_explode)

-- NOT PRINTED: function 85 (strings_Index)

-- NOT PRINTED: function 97 (bytealg_CountString)

-- NOT PRINTED: function 84 (strings_Count)

-- NOT PRINTED: function 70 (strings_genSplit)

theorem asm_verb.calls (k : Nat) (a0 : ByteArray) (r1 : Int) (r2 : Int) (r3 : Int) (r4 : Bool) (r5 : Bool) (w : World) (hrG0 : Kd.C Kd.string w (some ⟨0, 0, none⟩) gl0.length gl0) (hrG1 : Kd.C Kd.string w (some ⟨1, 0, none⟩) gl1.length gl1) (hrG3 : Kd.C kGF w (some ⟨3, 0, none⟩) gl3.length gl3) (h : asm_verb.f k a0 = some (r1, r2, r3, r4, r5)) (hm : r1 ≠ (-1) := by assumption) :
  Calls Tryd.prog 50 #[.string a0] w fun e w' => e = .returned (.agg #[.int .i64 r1, .int .i64 r2, .int .i64 r3, .bool r4, .bool r5]) ∧ Below w.heap.size w w' := (asm_verb.both k a0 r1 r2 r3 r4 r5 w hrG0 hrG1 hrG3 h).mono fun e w' ⟨h1, h2⟩ => ⟨h1.elim (fun x => absurd x.1 hm) (fun x => x.2), h2⟩
theorem asm_verb.bad (k : Nat) (a0 : ByteArray) (r1 : Int) (r2 : Int) (r3 : Int) (r4 : Bool) (r5 : Bool) (w : World) (hrG0 : Kd.C Kd.string w (some ⟨0, 0, none⟩) gl0.length gl0) (hrG1 : Kd.C Kd.string w (some ⟨1, 0, none⟩) gl1.length gl1) (hrG3 : Kd.C kGF w (some ⟨3, 0, none⟩) gl3.length gl3) (h : asm_verb.f k a0 = some (r1, r2, r3, r4, r5)) (hm : r1 = (-1)) :
  Calls Tryd.prog 50 #[.string a0] w fun e w' => Bad e ∧ Below w.heap.size w w' := (asm_verb.both k a0 r1 r2 r3 r4 r5 w hrG0 hrG1 hrG3 h).mono fun e w' ⟨h1, h2⟩ => ⟨h1.elim (fun x => x.2) (fun x => absurd hm x.1), h2⟩

end Go.Proofs.YtondogoepcndiaaDoor.P
