/- Made by this session's driver over the kit's printer: for each Go function a Lean function with the same answers, and a proof that the Go call comes to these answers; no conditions but the ones each theorem names. -/
import Derived.Test.YtkojjjdeacdabaaDoorPx0
import Derived.Test.YtkojjjdeacdabaaDoorPx6
import Derived.Test.YtkojjjdeacdabaaDoorPx9
import Derived.Test.YtkojjjdeacdabaaDoorPx10
import Derived.Test.YtkojjjdeacdabaaDoorPx18
import Derived.Test.YtkojjjdeacdabaaDoorPx19
namespace Go.Proofs.YtkojjjdeacdabaaDoor.P
open Go.RowKit Go.Proofs.YtkojjjdeacdabaaDoorW.PrintWords Go.Proofs.YtkojjjdeacdabaaDoorW.PrintLast Go.Proofs.YtkojjjdeacdabaaDoorW.PrintMore
attribute [local go_sem] max2_int min2_int max_two min_two max_three min_three max_four min_four   -- for this text's walks alone
set_option linter.unusedVariables false
set_option linter.unusedSimpArgs false

/-! ### insn_Places: function 28 -/
def insn_Places.f (k : Nat) (a0_0 : Int) (a0_1 : Int) (a0_2 : Int) (a0_3 : Int) (a0_4 : Int) : Option (Int) := (insn_Of.f k a0_0 a0_1 a0_2 a0_3 a0_4).bind fun bt567 => (if bt567.2.2.2.2.2 = 0 then (if bt567.1 = 10 then (some 2) else (if bt567.1 = 11 then (some 2) else (some 1))) else (some 0))
theorem insn_Places.mono : ∀ a0 a1 a2 a3 a4 k, LeO (insn_Places.f k a0 a1 a2 a3 a4) (insn_Places.f (k + 1) a0 a1 a2 a3 a4) := by
 intro a0 a1 a2 a3 a4 k
 unfold insn_Places.f
 repeat' first
   | (with_reducible exact insn_Of.mono _ _ _ _ _ _)
   | (with_reducible exact LeO.refl _)
   | (with_reducible exact LeO.none _)
   | (with_reducible refine LeO.ite ?_ ?_)
   | (with_reducible refine LeO.bind ?_ (fun _ => ?_))
   | exact insn_Of.mono _ _ _ _ _ _
   | exact LeO.none _
   | refine LeO.ite ?_ ?_
   | refine LeO.bind ?_ (fun _ => ?_)
set_option maxHeartbeats 8000000 in
set_option maxRecDepth 100000 in
theorem insn_Places.calls (k : Nat) (a0_0 : Int) (a0_1 : Int) (a0_2 : Int) (a0_3 : Int) (a0_4 : Int) (r : Int) (w : World) (hrG0 : Kd.C (Kd.int .i64) w (some ⟨0, 0, none⟩) gl0.length gl0) (h : insn_Places.f k a0_0 a0_1 a0_2 a0_3 a0_4 = some r) :
  Calls Tryd.prog 28 #[.agg #[.int .u8 a0_0, .int .u8 a0_1, .int .u8 a0_2, .int .i16 a0_3, .int .i32 a0_4]] w fun e w' => e = .returned (.int .i64 r) ∧ Below w.heap.size w w' := by
 have hu24 := Tryd.underlying24
 have hu26 := Tryd.underlying26
 have HRG0 := Aside0.mk hrG0
 clear hrG0
 have HB := Aside0.mk (Below.refl w.heap.size w)
 have H : ((insn_Of.f k a0_0 a0_1 a0_2 a0_3 a0_4).bind fun bt567 => (if bt567.2.2.2.2.2 = 0 then (if bt567.1 = 10 then (some 2) else (if bt567.1 = 11 then (some 2) else (some 1))) else (some 0))) = some r := h
 clear h
 replace H := Option.bind_eq_some_iff.mp H; obtain ⟨⟨t567, t568, t569, t570, t571, t572⟩, A20, H⟩ := H; try dsimp only at H
 have A2 := Aside0.mk A20
 clear A20
 by_cases c3 : t572 = 0
 ·rw [if_pos c3] at H
  have c3b0 : (t572 == 0) = true := beq_iff_eq.mpr c3
  have c3b1 : (t572 != 0) = false := bne_eq_false_iff_eq.mpr c3
  clear c3
  by_cases c4 : t567 = 10
  ·rw [if_pos c4] at H
   have c4b0 : (t567 == 10) = true := beq_iff_eq.mpr c4
   have c4b1 : (t567 != 10) = false := bne_eq_false_iff_eq.mpr c4
   clear c4
   obtain rfl := Option.some.inj H
   go_enter Tryd.func28, Tryd.ntmps28
   go_wp2_with (first | ((with_reducible refine gate_dst (N := 1) rfl ?_); refine sh_box 1 #[.int .u8 a0_0, .int .u8 a0_1, .int .u8 a0_2, .int .i16 a0_3, .int .i32 a0_4] 24 ?_; intro gb566 hg w5 hbox hb; have GE566 := sh_z (w := w) hg; replace HB := sh_b (w := w) hb; have BK566 := Aside0.mk (hbox); clear hb hbox hg; have hcz6 := blk_all5 BK566.out) | ((with_reducible refine gate_callee (f := 12) rfl ?_); refine sh_call (some 7) Tryd.func12 #[.agg #[.int .u8 a0_0, .int .u8 a0_1, .int .u8 a0_2, .int .i16 a0_3, .int .i32 a0_4]] ?_; (with_reducible refine (insn_Of.calls k a0_0 a0_1 a0_2 a0_3 a0_4 t567 t568 t569 t570 t571 t572 _ ?side1 A2.out).mono ?_); (case side1 => repeat (first | exact (Kd.C_below HRG0.out HB.out) | (with_reducible refine Kd.C_alloc ?_ _) | (with_reducible refine Kd.C_drewN ?_ _) | (with_reducible refine Kd.C_drew ?_))); rintro e w7 ⟨rfl, hb⟩; refine ⟨_, rfl, ?_⟩; replace BK566 := sh_k BK566 hb; replace HB := sh_b (w := w) hb; (try clear hb); (try clear hb2); (try clear hk); (try clear hi)) | ((with_reducible refine gate_dst (N := 3) rfl ?_); refine sh_box 3 #[.int .i64 0, .int .i64 0, .int .i64 0, .bool false, .bool false] 26 ?_; intro gb573 hg w8 hbox hb; have GE573 := sh_z (w := w) hg; have NB566_573 := sh_n BK566 hg; have NB573_566 := sh_s NB566_573; replace BK566 := sh_k BK566 hb; replace HB := sh_b (w := w) hb; have BK573 := Aside0.mk (hbox); clear hb hbox hg; have hnb9 := NB573_566.out; have hnc9 := NB566_573.out; have hcz10 := blk_all5 BK573.out))
   go_ret
   exact ⟨ret_now, b_now⟩
  ·rw [if_neg c4] at H
   have c4b0 : (t567 == 10) = false := beq_eq_false_iff_ne.mpr c4
   have c4b1 : (t567 != 10) = true := bne_iff_ne.mpr c4
   by_cases c11 : t567 = 11
   ·rw [if_pos c11] at H
    have c11b0 : (t567 == 11) = true := beq_iff_eq.mpr c11
    have c11b1 : (t567 != 11) = false := bne_eq_false_iff_eq.mpr c11
    clear c11
    obtain rfl := Option.some.inj H
    go_enter Tryd.func28, Tryd.ntmps28
    go_wp2_with (first | ((with_reducible refine gate_dst (N := 1) rfl ?_); refine sh_box 1 #[.int .u8 a0_0, .int .u8 a0_1, .int .u8 a0_2, .int .i16 a0_3, .int .i32 a0_4] 24 ?_; intro gb566 hg w12 hbox hb; have GE566 := sh_z (w := w) hg; replace HB := sh_b (w := w) hb; have BK566 := Aside0.mk (hbox); clear hb hbox hg; have hcz13 := blk_all5 BK566.out) | ((with_reducible refine gate_callee (f := 12) rfl ?_); refine sh_call (some 7) Tryd.func12 #[.agg #[.int .u8 a0_0, .int .u8 a0_1, .int .u8 a0_2, .int .i16 a0_3, .int .i32 a0_4]] ?_; (with_reducible refine (insn_Of.calls k a0_0 a0_1 a0_2 a0_3 a0_4 t567 t568 t569 t570 t571 t572 _ ?side1 A2.out).mono ?_); (case side1 => repeat (first | exact (Kd.C_below HRG0.out HB.out) | (with_reducible refine Kd.C_alloc ?_ _) | (with_reducible refine Kd.C_drewN ?_ _) | (with_reducible refine Kd.C_drew ?_))); rintro e w14 ⟨rfl, hb⟩; refine ⟨_, rfl, ?_⟩; replace BK566 := sh_k BK566 hb; replace HB := sh_b (w := w) hb; (try clear hb); (try clear hb2); (try clear hk); (try clear hi)) | ((with_reducible refine gate_dst (N := 3) rfl ?_); refine sh_box 3 #[.int .i64 0, .int .i64 0, .int .i64 0, .bool false, .bool false] 26 ?_; intro gb573 hg w15 hbox hb; have GE573 := sh_z (w := w) hg; have NB566_573 := sh_n BK566 hg; have NB573_566 := sh_s NB566_573; replace BK566 := sh_k BK566 hb; replace HB := sh_b (w := w) hb; have BK573 := Aside0.mk (hbox); clear hb hbox hg; have hnb16 := NB573_566.out; have hnc16 := NB566_573.out; have hcz17 := blk_all5 BK573.out))
    go_ret
    exact ⟨ret_now, b_now⟩
   ·rw [if_neg c11] at H
    have c11b0 : (t567 == 11) = false := beq_eq_false_iff_ne.mpr c11
    have c11b1 : (t567 != 11) = true := bne_iff_ne.mpr c11
    obtain rfl := Option.some.inj H
    go_enter Tryd.func28, Tryd.ntmps28
    go_wp2_with (first | ((with_reducible refine gate_dst (N := 1) rfl ?_); refine sh_box 1 #[.int .u8 a0_0, .int .u8 a0_1, .int .u8 a0_2, .int .i16 a0_3, .int .i32 a0_4] 24 ?_; intro gb566 hg w18 hbox hb; have GE566 := sh_z (w := w) hg; replace HB := sh_b (w := w) hb; have BK566 := Aside0.mk (hbox); clear hb hbox hg; have hcz19 := blk_all5 BK566.out) | ((with_reducible refine gate_callee (f := 12) rfl ?_); refine sh_call (some 7) Tryd.func12 #[.agg #[.int .u8 a0_0, .int .u8 a0_1, .int .u8 a0_2, .int .i16 a0_3, .int .i32 a0_4]] ?_; (with_reducible refine (insn_Of.calls k a0_0 a0_1 a0_2 a0_3 a0_4 t567 t568 t569 t570 t571 t572 _ ?side1 A2.out).mono ?_); (case side1 => repeat (first | exact (Kd.C_below HRG0.out HB.out) | (with_reducible refine Kd.C_alloc ?_ _) | (with_reducible refine Kd.C_drewN ?_ _) | (with_reducible refine Kd.C_drew ?_))); rintro e w20 ⟨rfl, hb⟩; refine ⟨_, rfl, ?_⟩; replace BK566 := sh_k BK566 hb; replace HB := sh_b (w := w) hb; (try clear hb); (try clear hb2); (try clear hk); (try clear hi)) | ((with_reducible refine gate_dst (N := 3) rfl ?_); refine sh_box 3 #[.int .i64 0, .int .i64 0, .int .i64 0, .bool false, .bool false] 26 ?_; intro gb573 hg w21 hbox hb; have GE573 := sh_z (w := w) hg; have NB566_573 := sh_n BK566 hg; have NB573_566 := sh_s NB566_573; replace BK566 := sh_k BK566 hb; replace HB := sh_b (w := w) hb; have BK573 := Aside0.mk (hbox); clear hb hbox hg; have hnb22 := NB573_566.out; have hnc22 := NB566_573.out; have hcz23 := blk_all5 BK573.out))
    go_ret
    exact ⟨ret_now, b_now⟩
 ·rw [if_neg c3] at H
  have c3b0 : (t572 == 0) = false := beq_eq_false_iff_ne.mpr c3
  have c3b1 : (t572 != 0) = true := bne_iff_ne.mpr c3
  obtain rfl := Option.some.inj H
  go_enter Tryd.func28, Tryd.ntmps28
  go_wp2_with (first | ((with_reducible refine gate_dst (N := 1) rfl ?_); refine sh_box 1 #[.int .u8 a0_0, .int .u8 a0_1, .int .u8 a0_2, .int .i16 a0_3, .int .i32 a0_4] 24 ?_; intro gb566 hg w24 hbox hb; have GE566 := sh_z (w := w) hg; replace HB := sh_b (w := w) hb; have BK566 := Aside0.mk (hbox); clear hb hbox hg; have hcz25 := blk_all5 BK566.out) | ((with_reducible refine gate_callee (f := 12) rfl ?_); refine sh_call (some 7) Tryd.func12 #[.agg #[.int .u8 a0_0, .int .u8 a0_1, .int .u8 a0_2, .int .i16 a0_3, .int .i32 a0_4]] ?_; (with_reducible refine (insn_Of.calls k a0_0 a0_1 a0_2 a0_3 a0_4 t567 t568 t569 t570 t571 t572 _ ?side1 A2.out).mono ?_); (case side1 => repeat (first | exact (Kd.C_below HRG0.out HB.out) | (with_reducible refine Kd.C_alloc ?_ _) | (with_reducible refine Kd.C_drewN ?_ _) | (with_reducible refine Kd.C_drew ?_))); rintro e w26 ⟨rfl, hb⟩; refine ⟨_, rfl, ?_⟩; replace BK566 := sh_k BK566 hb; replace HB := sh_b (w := w) hb; (try clear hb); (try clear hb2); (try clear hk); (try clear hi)) | ((with_reducible refine gate_dst (N := 3) rfl ?_); refine sh_box 3 #[.int .i64 0, .int .i64 0, .int .i64 0, .bool false, .bool false] 26 ?_; intro gb573 hg w27 hbox hb; have GE573 := sh_z (w := w) hg; have NB566_573 := sh_n BK566 hg; have NB573_566 := sh_s NB566_573; replace BK566 := sh_k BK566 hb; replace HB := sh_b (w := w) hb; have BK573 := Aside0.mk (hbox); clear hb hbox hg; have hnb28 := NB573_566.out; have hnc28 := NB566_573.out; have hcz29 := blk_all5 BK573.out))
  go_ret
  exact ⟨ret_now, b_now⟩

/-! ### stockaderef02_Places: function 29 -/
def stockaderef02_Places.f (k : Nat) (a0_0 : Int) (a0_1 : Int) (a0_2 : Int) (a0_3 : Int) (a0_4 : Int) : Option (Int) := (stockaderef02_Of.f k a0_0 a0_1 a0_2 a0_3 a0_4).bind fun bt575 => (if bt575.2.2.2.2.2 = 0 then (if bt575.1 = 10 then (some 2) else (if bt575.1 = 11 then (some 2) else (some 1))) else (some 0))
theorem stockaderef02_Places.mono : ∀ a0 a1 a2 a3 a4 k, LeO (stockaderef02_Places.f k a0 a1 a2 a3 a4) (stockaderef02_Places.f (k + 1) a0 a1 a2 a3 a4) := by
 intro a0 a1 a2 a3 a4 k
 unfold stockaderef02_Places.f
 repeat' first
   | (with_reducible exact stockaderef02_Of.mono _ _ _ _ _ _)
   | (with_reducible exact LeO.refl _)
   | (with_reducible exact LeO.none _)
   | (with_reducible refine LeO.ite ?_ ?_)
   | (with_reducible refine LeO.bind ?_ (fun _ => ?_))
   | exact stockaderef02_Of.mono _ _ _ _ _ _
   | exact LeO.none _
   | refine LeO.ite ?_ ?_
   | refine LeO.bind ?_ (fun _ => ?_)
set_option maxHeartbeats 8000000 in
set_option maxRecDepth 100000 in
theorem stockaderef02_Places.calls (k : Nat) (a0_0 : Int) (a0_1 : Int) (a0_2 : Int) (a0_3 : Int) (a0_4 : Int) (r : Int) (w : World) (h : stockaderef02_Places.f k a0_0 a0_1 a0_2 a0_3 a0_4 = some r) :
  Calls Tryd.prog 29 #[.agg #[.int .u8 a0_0, .int .u8 a0_1, .int .u8 a0_2, .int .i16 a0_3, .int .i32 a0_4]] w fun e w' => e = .returned (.int .i64 r) ∧ Below w.heap.size w w' := by
 have hu24 := Tryd.underlying24
 have hu30 := Tryd.underlying30
 have HB := Aside0.mk (Below.refl w.heap.size w)
 have H : ((stockaderef02_Of.f k a0_0 a0_1 a0_2 a0_3 a0_4).bind fun bt575 => (if bt575.2.2.2.2.2 = 0 then (if bt575.1 = 10 then (some 2) else (if bt575.1 = 11 then (some 2) else (some 1))) else (some 0))) = some r := h
 clear h
 replace H := Option.bind_eq_some_iff.mp H; obtain ⟨⟨t575, t576, t577, t578, t579, t580⟩, A20, H⟩ := H; try dsimp only at H
 have A2 := Aside0.mk A20
 clear A20
 by_cases c3 : t580 = 0
 ·rw [if_pos c3] at H
  have c3b0 : (t580 == 0) = true := beq_iff_eq.mpr c3
  have c3b1 : (t580 != 0) = false := bne_eq_false_iff_eq.mpr c3
  clear c3
  by_cases c4 : t575 = 10
  ·rw [if_pos c4] at H
   have c4b0 : (t575 == 10) = true := beq_iff_eq.mpr c4
   have c4b1 : (t575 != 10) = false := bne_eq_false_iff_eq.mpr c4
   clear c4
   obtain rfl := Option.some.inj H
   go_enter Tryd.func29, Tryd.ntmps29
   go_wp2_with (first | ((with_reducible refine gate_dst (N := 1) rfl ?_); refine sh_box 1 #[.int .u8 a0_0, .int .u8 a0_1, .int .u8 a0_2, .int .i16 a0_3, .int .i32 a0_4] 24 ?_; intro gb574 hg w5 hbox hb; have GE574 := sh_z (w := w) hg; replace HB := sh_b (w := w) hb; have BK574 := Aside0.mk (hbox); clear hb hbox hg; have hcz6 := blk_all5 BK574.out) | ((with_reducible refine gate_callee (f := 13) rfl ?_); refine sh_call (some 7) Tryd.func13 #[.agg #[.int .u8 a0_0, .int .u8 a0_1, .int .u8 a0_2, .int .i16 a0_3, .int .i32 a0_4]] ?_; (with_reducible refine (stockaderef02_Of.calls k a0_0 a0_1 a0_2 a0_3 a0_4 t575 t576 t577 t578 t579 t580 _ A2.out).mono ?_); rintro e w7 ⟨rfl, hb⟩; refine ⟨_, rfl, ?_⟩; replace BK574 := sh_k BK574 hb; replace HB := sh_b (w := w) hb; (try clear hb); (try clear hb2); (try clear hk); (try clear hi)) | ((with_reducible refine gate_dst (N := 3) rfl ?_); refine sh_box 3 #[.int .i64 0, .int .i64 0, .int .i64 0, .bool false, .bool false] 30 ?_; intro gb581 hg w8 hbox hb; have GE581 := sh_z (w := w) hg; have NB574_581 := sh_n BK574 hg; have NB581_574 := sh_s NB574_581; replace BK574 := sh_k BK574 hb; replace HB := sh_b (w := w) hb; have BK581 := Aside0.mk (hbox); clear hb hbox hg; have hnb9 := NB581_574.out; have hnc9 := NB574_581.out; have hcz10 := blk_all5 BK581.out))
   go_ret
   exact ⟨ret_now, b_now⟩
  ·rw [if_neg c4] at H
   have c4b0 : (t575 == 10) = false := beq_eq_false_iff_ne.mpr c4
   have c4b1 : (t575 != 10) = true := bne_iff_ne.mpr c4
   by_cases c11 : t575 = 11
   ·rw [if_pos c11] at H
    have c11b0 : (t575 == 11) = true := beq_iff_eq.mpr c11
    have c11b1 : (t575 != 11) = false := bne_eq_false_iff_eq.mpr c11
    clear c11
    obtain rfl := Option.some.inj H
    go_enter Tryd.func29, Tryd.ntmps29
    go_wp2_with (first | ((with_reducible refine gate_dst (N := 1) rfl ?_); refine sh_box 1 #[.int .u8 a0_0, .int .u8 a0_1, .int .u8 a0_2, .int .i16 a0_3, .int .i32 a0_4] 24 ?_; intro gb574 hg w12 hbox hb; have GE574 := sh_z (w := w) hg; replace HB := sh_b (w := w) hb; have BK574 := Aside0.mk (hbox); clear hb hbox hg; have hcz13 := blk_all5 BK574.out) | ((with_reducible refine gate_callee (f := 13) rfl ?_); refine sh_call (some 7) Tryd.func13 #[.agg #[.int .u8 a0_0, .int .u8 a0_1, .int .u8 a0_2, .int .i16 a0_3, .int .i32 a0_4]] ?_; (with_reducible refine (stockaderef02_Of.calls k a0_0 a0_1 a0_2 a0_3 a0_4 t575 t576 t577 t578 t579 t580 _ A2.out).mono ?_); rintro e w14 ⟨rfl, hb⟩; refine ⟨_, rfl, ?_⟩; replace BK574 := sh_k BK574 hb; replace HB := sh_b (w := w) hb; (try clear hb); (try clear hb2); (try clear hk); (try clear hi)) | ((with_reducible refine gate_dst (N := 3) rfl ?_); refine sh_box 3 #[.int .i64 0, .int .i64 0, .int .i64 0, .bool false, .bool false] 30 ?_; intro gb581 hg w15 hbox hb; have GE581 := sh_z (w := w) hg; have NB574_581 := sh_n BK574 hg; have NB581_574 := sh_s NB574_581; replace BK574 := sh_k BK574 hb; replace HB := sh_b (w := w) hb; have BK581 := Aside0.mk (hbox); clear hb hbox hg; have hnb16 := NB581_574.out; have hnc16 := NB574_581.out; have hcz17 := blk_all5 BK581.out))
    go_ret
    exact ⟨ret_now, b_now⟩
   ·rw [if_neg c11] at H
    have c11b0 : (t575 == 11) = false := beq_eq_false_iff_ne.mpr c11
    have c11b1 : (t575 != 11) = true := bne_iff_ne.mpr c11
    obtain rfl := Option.some.inj H
    go_enter Tryd.func29, Tryd.ntmps29
    go_wp2_with (first | ((with_reducible refine gate_dst (N := 1) rfl ?_); refine sh_box 1 #[.int .u8 a0_0, .int .u8 a0_1, .int .u8 a0_2, .int .i16 a0_3, .int .i32 a0_4] 24 ?_; intro gb574 hg w18 hbox hb; have GE574 := sh_z (w := w) hg; replace HB := sh_b (w := w) hb; have BK574 := Aside0.mk (hbox); clear hb hbox hg; have hcz19 := blk_all5 BK574.out) | ((with_reducible refine gate_callee (f := 13) rfl ?_); refine sh_call (some 7) Tryd.func13 #[.agg #[.int .u8 a0_0, .int .u8 a0_1, .int .u8 a0_2, .int .i16 a0_3, .int .i32 a0_4]] ?_; (with_reducible refine (stockaderef02_Of.calls k a0_0 a0_1 a0_2 a0_3 a0_4 t575 t576 t577 t578 t579 t580 _ A2.out).mono ?_); rintro e w20 ⟨rfl, hb⟩; refine ⟨_, rfl, ?_⟩; replace BK574 := sh_k BK574 hb; replace HB := sh_b (w := w) hb; (try clear hb); (try clear hb2); (try clear hk); (try clear hi)) | ((with_reducible refine gate_dst (N := 3) rfl ?_); refine sh_box 3 #[.int .i64 0, .int .i64 0, .int .i64 0, .bool false, .bool false] 30 ?_; intro gb581 hg w21 hbox hb; have GE581 := sh_z (w := w) hg; have NB574_581 := sh_n BK574 hg; have NB581_574 := sh_s NB574_581; replace BK574 := sh_k BK574 hb; replace HB := sh_b (w := w) hb; have BK581 := Aside0.mk (hbox); clear hb hbox hg; have hnb22 := NB581_574.out; have hnc22 := NB574_581.out; have hcz23 := blk_all5 BK581.out))
    go_ret
    exact ⟨ret_now, b_now⟩
 ·rw [if_neg c3] at H
  have c3b0 : (t580 == 0) = false := beq_eq_false_iff_ne.mpr c3
  have c3b1 : (t580 != 0) = true := bne_iff_ne.mpr c3
  obtain rfl := Option.some.inj H
  go_enter Tryd.func29, Tryd.ntmps29
  go_wp2_with (first | ((with_reducible refine gate_dst (N := 1) rfl ?_); refine sh_box 1 #[.int .u8 a0_0, .int .u8 a0_1, .int .u8 a0_2, .int .i16 a0_3, .int .i32 a0_4] 24 ?_; intro gb574 hg w24 hbox hb; have GE574 := sh_z (w := w) hg; replace HB := sh_b (w := w) hb; have BK574 := Aside0.mk (hbox); clear hb hbox hg; have hcz25 := blk_all5 BK574.out) | ((with_reducible refine gate_callee (f := 13) rfl ?_); refine sh_call (some 7) Tryd.func13 #[.agg #[.int .u8 a0_0, .int .u8 a0_1, .int .u8 a0_2, .int .i16 a0_3, .int .i32 a0_4]] ?_; (with_reducible refine (stockaderef02_Of.calls k a0_0 a0_1 a0_2 a0_3 a0_4 t575 t576 t577 t578 t579 t580 _ A2.out).mono ?_); rintro e w26 ⟨rfl, hb⟩; refine ⟨_, rfl, ?_⟩; replace BK574 := sh_k BK574 hb; replace HB := sh_b (w := w) hb; (try clear hb); (try clear hb2); (try clear hk); (try clear hi)) | ((with_reducible refine gate_dst (N := 3) rfl ?_); refine sh_box 3 #[.int .i64 0, .int .i64 0, .int .i64 0, .bool false, .bool false] 30 ?_; intro gb581 hg w27 hbox hb; have GE581 := sh_z (w := w) hg; have NB574_581 := sh_n BK574 hg; have NB581_574 := sh_s NB574_581; replace BK574 := sh_k BK574 hb; replace HB := sh_b (w := w) hb; have BK581 := Aside0.mk (hbox); clear hb hbox hg; have hnb28 := NB581_574.out; have hnc28 := NB574_581.out; have hcz29 := blk_all5 BK581.out))
  go_ret
  exact ⟨ret_now, b_now⟩

/-! ### stockadelaw02_InsnUses: function 9 -/
def stockadelaw02_InsnUses.l0 : Nat → List Int → List Int → Int → Int → Int → Int → Int → Int → Option (Bool)
 | 0, _, _, _, _, _, _, _, _ => none
 | k + 1, x3, x4, x5, x583000, x583001, x583002, x583003, x583004 => if x5 < (x3.length : Int) then (if 0 ≤ x5 then (if x5 < (x4.length : Int) then (if (rd x3 x5) = (rd x4 x5) then (stockadelaw02_InsnUses.l0 k x3 x4 (wrap64 (x5 + 1)) x583000 x583001 x583002 x583003 x583004) else (some false)) else (none)) else (none)) else ((insn_Writes.f k x583000 x583001 x583002 x583003 x583004).bind fun t591 => ((stockaderef02_Writes.f k x583000 x583001 x583002 x583003 x583004).bind fun t592 => (if t591 = t592 then ((insn_Places.f k x583000 x583001 x583002 x583003 x583004).bind fun t593 => ((stockaderef02_Places.f k x583000 x583001 x583002 x583003 x583004).bind fun t594 => (if t593 = t594 then ((stockadelaw02_wakes.f k).bind fun t595 => (some t595)) else (some false)))) else (some false))))
def stockadelaw02_InsnUses.f (k : Nat) (a0_0 : Int) (a0_1 : Int) (a0_2 : Int) (a0_3 : Int) (a0_4 : Int) : Option (Bool) := (insn_Reads.f k a0_0 a0_1 a0_2 a0_3 a0_4).bind fun t583 => ((stockaderef02_Reads.f k a0_0 a0_1 a0_2 a0_3 a0_4).bind fun t586 => (if (t583.length : Int) = (t586.length : Int) then (stockadelaw02_InsnUses.l0 k t583 t586 0 a0_0 a0_1 a0_2 a0_3 a0_4) else (some false)))
theorem stockadelaw02_InsnUses.mono_l : ∀ k, (∀ y0 y1 y2 y3 y4 y5 y6 y7, LeO (stockadelaw02_InsnUses.l0 k y0 y1 y2 y3 y4 y5 y6 y7) (stockadelaw02_InsnUses.l0 (k + 1) y0 y1 y2 y3 y4 y5 y6 y7))
 | 0 => fun _ _ _ _ _ _ _ _ r h => by simp [stockadelaw02_InsnUses.l0] at h
 | k + 1 => by
  have ih0 := stockadelaw02_InsnUses.mono_l k
  ·intro y0 y1 y2 y3 y4 y5 y6 y7
   unfold stockadelaw02_InsnUses.l0
   repeat' first
   | (with_reducible exact ih0 _ _ _ _ _ _ _ _)
   | (with_reducible exact insn_Places.mono _ _ _ _ _ _)
   | (with_reducible exact insn_Reads.mono _ _ _ _ _ _)
   | (with_reducible exact insn_Writes.mono _ _ _ _ _ _)
   | (with_reducible exact stockadelaw02_wakes.mono _)
   | (with_reducible exact stockaderef02_Places.mono _ _ _ _ _ _)
   | (with_reducible exact stockaderef02_Reads.mono _ _ _ _ _ _)
   | (with_reducible exact stockaderef02_Writes.mono _ _ _ _ _ _)
   | (with_reducible exact LeO.refl _)
   | (with_reducible exact LeO.none _)
   | (with_reducible refine LeO.ite ?_ ?_)
   | (with_reducible refine LeO.bind ?_ (fun _ => ?_))
   | exact ih0 _ _ _ _ _ _ _ _
   | exact insn_Places.mono _ _ _ _ _ _
   | exact insn_Reads.mono _ _ _ _ _ _
   | exact insn_Writes.mono _ _ _ _ _ _
   | exact stockadelaw02_wakes.mono _
   | exact stockaderef02_Places.mono _ _ _ _ _ _
   | exact stockaderef02_Reads.mono _ _ _ _ _ _
   | exact stockaderef02_Writes.mono _ _ _ _ _ _
   | exact LeO.none _
   | refine LeO.ite ?_ ?_
   | refine LeO.bind ?_ (fun _ => ?_)
theorem stockadelaw02_InsnUses.mono : ∀ a0 a1 a2 a3 a4 k, LeO (stockadelaw02_InsnUses.f k a0 a1 a2 a3 a4) (stockadelaw02_InsnUses.f (k + 1) a0 a1 a2 a3 a4) := by
 intro a0 a1 a2 a3 a4 k
 have ih0 := stockadelaw02_InsnUses.mono_l k
 unfold stockadelaw02_InsnUses.f
 repeat' first
   | (with_reducible exact ih0 _ _ _ _ _ _ _ _)
   | (with_reducible exact insn_Places.mono _ _ _ _ _ _)
   | (with_reducible exact insn_Reads.mono _ _ _ _ _ _)
   | (with_reducible exact insn_Writes.mono _ _ _ _ _ _)
   | (with_reducible exact stockadelaw02_wakes.mono _)
   | (with_reducible exact stockaderef02_Places.mono _ _ _ _ _ _)
   | (with_reducible exact stockaderef02_Reads.mono _ _ _ _ _ _)
   | (with_reducible exact stockaderef02_Writes.mono _ _ _ _ _ _)
   | (with_reducible exact LeO.refl _)
   | (with_reducible exact LeO.none _)
   | (with_reducible refine LeO.ite ?_ ?_)
   | (with_reducible refine LeO.bind ?_ (fun _ => ?_))
   | exact ih0 _ _ _ _ _ _ _ _
   | exact insn_Places.mono _ _ _ _ _ _
   | exact insn_Reads.mono _ _ _ _ _ _
   | exact insn_Writes.mono _ _ _ _ _ _
   | exact stockadelaw02_wakes.mono _
   | exact stockaderef02_Places.mono _ _ _ _ _ _
   | exact stockaderef02_Reads.mono _ _ _ _ _ _
   | exact stockaderef02_Writes.mono _ _ _ _ _ _
   | exact LeO.none _
   | refine LeO.ite ?_ ?_
   | refine LeO.bind ?_ (fun _ => ?_)
def stockadelaw02_InsnUses.T8 : Bool × List (List Nat × List Nat) := (true, [([], []), ([], []), ([0, 1], [0, 1]), ([2], [2]), ([], []), ([], []), ([4, 5], [4, 5]), ([6], [6]), ([3, 7], [3, 7])])
def stockadelaw02_InsnUses.B8 : List Nat := [0, 0, 3, 7, 0, 0, 48, 112, 255]
theorem stockadelaw02_InsnUses.tab8 : rtab .any (opsOf Tryd.f9 8) = stockadelaw02_InsnUses.T8 := by kernel_rfl
theorem stockadelaw02_InsnUses.bits8 : waitsOk stockadelaw02_InsnUses.T8.2 stockadelaw02_InsnUses.B8 = true := by kernel_rfl
def stockadelaw02_InsnUses.T10 : Bool × List (List Nat × List Nat) := (true, [([], []), ([0], [0]), ([], []), ([2, 1], [2]), ([1, 3], [1, 3]), ([4, 3], [4]), ([5], [5]), ([6, 5, 5], [5, 6]), ([5], [5]), ([8, 7, 5], [5, 8]), ([7, 9, 5], [5, 7, 9]), ([5, 10], [5, 10]), ([11, 9], [11]), ([12, 12], [12]), ([12, 13], [12, 13]), ([14, 13, 0, 1, 2, 3, 4, 5, 6, 7, 8, 9, 10, 11, 12, 13, 14], [14])])
def stockadelaw02_InsnUses.B10 : List Nat := [0, 1, 0, 7, 15, 31, 63, 127, 63, 511, 1023, 2047, 4095, 8191, 16383, 32767]
theorem stockadelaw02_InsnUses.tab10 : rtab .any (opsOf Tryd.f9 10) = stockadelaw02_InsnUses.T10 := by kernel_rfl
theorem stockadelaw02_InsnUses.bits10 : waitsOk stockadelaw02_InsnUses.T10.2 stockadelaw02_InsnUses.B10 = true := by kernel_rfl
set_option maxHeartbeats 8000000 in
set_option maxRecDepth 100000 in
theorem stockadelaw02_InsnUses.calls (k : Nat) (a0_0 : Int) (a0_1 : Int) (a0_2 : Int) (a0_3 : Int) (a0_4 : Int) (r : Bool) (w : World) (hrG0 : Kd.C (Kd.int .i64) w (some ⟨0, 0, none⟩) gl0.length gl0) (hr_ : r = true) (h : stockadelaw02_InsnUses.f k a0_0 a0_1 a0_2 a0_3 a0_4 = some r) :
  Calls Tryd.prog 9 #[.agg #[.int .u8 a0_0, .int .u8 a0_1, .int .u8 a0_2, .int .i16 a0_3, .int .i32 a0_4]] w fun e w' => e = .returned (.bool r) ∧ Below w.heap.size w w' := by
 have hu24 := Tryd.underlying24
 have HRG0 := Aside0.mk hrG0
 clear hrG0
 have HRT := Aside0.mk hr_
 clear hr_
 have HB := Aside0.mk (Below.refl w.heap.size w)
 have H : ((insn_Reads.f k a0_0 a0_1 a0_2 a0_3 a0_4).bind fun t583 => ((stockaderef02_Reads.f k a0_0 a0_1 a0_2 a0_3 a0_4).bind fun t586 => (if (t583.length : Int) = (t586.length : Int) then (stockadelaw02_InsnUses.l0 k t583 t586 0 a0_0 a0_1 a0_2 a0_3 a0_4) else (some false)))) = some r := h
 clear h
 replace H := Option.bind_eq_some_iff.mp H; obtain ⟨t583, A20, H⟩ := H; try dsimp only at H
 have A2 := Aside0.mk A20
 clear A20
 replace H := Option.bind_eq_some_iff.mp H; obtain ⟨t586, A30, H⟩ := H; try dsimp only at H
 have A3 := Aside0.mk A30
 clear A30
 by_cases c4 : (t583.length : Int) = (t586.length : Int)
 ·rw [if_pos c4] at H
  have c4b0 : ((t583.length : Int) == (t586.length : Int)) = true := beq_iff_eq.mpr c4
  have c4b1 : ((t583.length : Int) != (t586.length : Int)) = false := bne_eq_false_iff_eq.mpr c4
  have c4b2 : (t583.length == t586.length) = true := by first | simpa using c4 | (simp at c4 ⊢; omega)
  clear c4
  have H' := Aside0.mk H
  clear H
  go_enter Tryd.func9, Tryd.ntmps9
  go_wp2_with (first | ((with_reducible refine gate_dst (N := 1) rfl ?_); refine sh_box 1 #[.int .u8 a0_0, .int .u8 a0_1, .int .u8 a0_2, .int .i16 a0_3, .int .i32 a0_4] 24 ?_; intro gb582 hg w5 hbox hb; have GE582 := sh_z (w := w) hg; replace HB := sh_b (w := w) hb; have BK582 := Aside0.mk (hbox); clear hb hbox hg; have hcz6 := blk_all5 BK582.out) | ((with_reducible refine gate_callee (f := 24) rfl ?_); refine sh_call (some 7) Tryd.func24 #[.agg #[.int .u8 a0_0, .int .u8 a0_1, .int .u8 a0_2, .int .i16 a0_3, .int .i32 a0_4]] ?_; (with_reducible refine (insn_Reads.calls k a0_0 a0_1 a0_2 a0_3 a0_4 t583 _ ?side1 A2.out).mono ?_); (case side1 => repeat (first | exact (Kd.C_below HRG0.out HB.out) | (with_reducible refine Kd.C_alloc ?_ _) | (with_reducible refine Kd.C_drewN ?_ _) | (with_reducible refine Kd.C_drew ?_))); rintro e w7 ⟨v584, rfl, ho0, hb⟩; refine ⟨_, rfl, ?_⟩; have HO585 := Aside0.mk (Kd.R_lower ho0 (below_size b_now)); replace BK582 := sh_k BK582 hb; replace HB := sh_b (w := w) hb; (try clear hb); (try clear hb2); (try clear hk); (try clear hi); (try clear ho0); have hcz8 := blk_all5 BK582.out) | ((with_reducible refine gate_callee (f := 25) rfl ?_); refine sh_call (some 9) Tryd.func25 #[.agg #[.int .u8 a0_0, .int .u8 a0_1, .int .u8 a0_2, .int .i16 a0_3, .int .i32 a0_4]] ?_; (with_reducible refine (stockaderef02_Reads.calls k a0_0 a0_1 a0_2 a0_3 a0_4 t586 _ A3.out).mono ?_); rintro e w9 ⟨v587, rfl, ho0, hb⟩; refine ⟨_, rfl, ?_⟩; have HO588 := Aside0.mk (Kd.R_lower (Kd.R_new' ho0 (Kd.R_lt (by (with_reducible repeat (first | apply Kd.R_alloc | apply Kd.R_drewN | apply Kd.R_drew)); exact HO585.out))) (below_size b_now)); replace HO585 := Aside0.mk (Kd.R_elder' (by (with_reducible repeat (first | apply Kd.R_alloc | apply Kd.R_drewN | apply Kd.R_drew)); exact HO585.out) (Kd.R_base ho0) hb); replace BK582 := sh_k BK582 hb; replace HB := sh_b (w := w) hb; (try clear hb); (try clear hb2); (try clear hk); (try clear hi); (try clear ho0); obtain ⟨Ao10, co10, eo10⟩ := Kd.R_slice HO585.out; subst eo10; obtain ⟨Ao11, co11, eo11⟩ := Kd.R_slice HO588.out; subst eo11))
  go_loopg [5] k (fun kq v5 w' => ∃ (x5_1 : Int), v5 = .int .i64 x5_1 ∧ Aside0 (stockadelaw02_InsnUses.l0 kq t583 t586 x5_1 a0_0 a0_1 a0_2 a0_3 a0_4 = some r) ∧ Aside0 (kq ≤ k) ∧ Aside0 (Kd.R (Kd.int .i64) 3 w' w.heap.size (fun k_ => some k_ ≠ ((.slice Ao11 t586.length co11) : Value).ownBlock) (.slice Ao10 t583.length co10) t583) ∧ Aside0 (Kd.R (Kd.int .i64) 3 w' w.heap.size (fun k_ => some k_ ≠ ((.slice Ao10 t583.length co10) : Value).ownBlock) (.slice Ao11 t586.length co11) t586) ∧ Aside0 (w'.heap[gb582]? = some (.cells #[.int .u8 a0_0, .int .u8 a0_1, .int .u8 a0_2, .int .i16 a0_3, .int .i32 a0_4] 24 (0, 0))) ∧ Aside0 (Below w.heap.size w w'))
  case atStart => exact ⟨(0), eq_now, H', ⟨Nat.le_refl _⟩, ⟨by (with_reducible repeat (first | apply Kd.R_alloc | apply Kd.R_drewN | apply Kd.R_drew)); exact Kd.R_mono HO585.out (fun _ hk => hk.2)⟩, ⟨by (with_reducible repeat (first | apply Kd.R_alloc | apply Kd.R_drewN | apply Kd.R_drew)); exact Kd.R_mono HO588.out (fun _ hk => hk.2)⟩, ⟨bk_now⟩, ⟨b_now⟩⟩
  case round =>
   clear H'
   try clear c2
   try clear p2
   try clear c4
   try clear c4b0
   try clear c4b1
   try clear c4b2
   try clear c9
   try clear hcz6
   try clear hcz8
   obtain ⟨x5_1, rfl, HA, HK1, HO_3, HO_4, BK582, HB⟩ := hrel
   cases gk with
   | zero => exact absurd HA.out (by simp [stockadelaw02_InsnUses.l0])
   | succ k1 =>
    have H := HA.out
    clear HA
    simp only [stockadelaw02_InsnUses.l0] at H
    by_cases c12 : x5_1 < (t583.length : Int)
    ·rw [if_pos c12] at H
     have c12b0 : decide (x5_1 < (t583.length : Int)) = true := decide_eq_true c12
     clear c12
     by_cases c13 : 0 ≤ x5_1
     ·rw [if_pos c13] at H
      have c13b0 : decide (0 ≤ x5_1) = true := decide_eq_true c13
      clear c13
      by_cases c14 : x5_1 < (t586.length : Int)
      ·rw [if_pos c14] at H
       have c14b0 : decide (x5_1 < (t586.length : Int)) = true := decide_eq_true c14
       clear c14
       by_cases c15 : (rd t583 x5_1) = (rd t586 x5_1)
       ·rw [if_pos c15] at H
        have c15b0 : ((rd t583 x5_1) == (rd t586 x5_1)) = true := beq_iff_eq.mpr c15
        have c15b1 : ((rd t583 x5_1) != (rd t586 x5_1)) = false := bne_eq_false_iff_eq.mpr c15
        clear c15
        have H' := Aside0.mk H
        clear H
        try go_wp2
        have n0_ := Aside0.mk (Kd.R_drew HO_3.out)
        have n1_ := Aside0.mk (Kd.R_drew HO_4.out)
        have n2_ := Aside0.mk (blk_drew BK582.out)
        have n3_ := Aside0.mk (below_drew1 HB.out)
        clear HO_3
        clear HO_4
        clear BK582
        clear HB
        have HO_3 := n0_
        have HO_4 := n1_
        have BK582 := n2_
        have HB := n3_
        clear n0_ n1_ n2_ n3_
        have p589 : 0 ≤ (x5_1 : Int) := of_decide_eq_true (by first | (with_reducible assumption) | assumption)
        have q589 : x5_1 < (t583.length : Int) := of_decide_eq_true (by first | (with_reducible assumption) | assumption)
        obtain ⟨ad589, e589, hx589_0⟩ := Kd.at_int (Kd.R_reads' HO_3.out).2.2 x5_1 p589 q589
        cases e589
        replace p589 := eq_true p589
        replace q589 := eq_true q589
        have p590 : 0 ≤ (x5_1 : Int) := of_decide_eq_true (by first | (with_reducible assumption) | assumption)
        have q590 : x5_1 < (t586.length : Int) := of_decide_eq_true (by first | (with_reducible assumption) | assumption)
        obtain ⟨ad590, e590, hx590_0⟩ := Kd.at_int (Kd.R_reads' HO_4.out).2.2 x5_1 p590 q590
        cases e590
        replace p590 := eq_true p590
        replace q590 := eq_true q590
        refine start_ (n := 9) (S := fun w' => w'.cell? (ad589.add (x5_1).toNat) = some (.int .i64 (rd t583 x5_1)) ∧ w'.cell? (ad590.add (x5_1).toNat) = some (.int .i64 (rd t586 x5_1))) (ds := []) #[false, false, false, false, false, false, false, false, false] (by kernel_rfl) rfl rfl ⟨hx589_0, hx590_0⟩ (fun hHeld => ?_); refine with_tabW stockadelaw02_InsnUses.tab8 stockadelaw02_InsnUses.bits8 (fun HT_ HW_ => ?_)
        generalize wr.drew = w16 at HO_3 HO_4 BK582 HB hx589_0 hx590_0 hHeld ⊢
        refine pure_ (i := 0) (N := some 21) (v := ?_) (a' := ?_) #[true, false, false, false, false, false, false, false, false] rfl rfl (any_of HT_.out (by kernel_rfl)) (fun _ _ _ h => h) (Or.inl ⟨by rfl, ?_⟩) ?_ ?_
        rotate_left
        ·intro w'
         go_simp
         with_reducible rfl
        rotate_left
        ·simp only [Act.put, List.setIfInBounds_toArray, List.set_cons_zero, List.set_cons_succ, i64_w, i32_w]
         rfl
        refine pure_ (i := 1) (N := some 22) (v := ?_) (a' := ?_) #[true, true, false, false, false, false, false, false, false] rfl rfl (any_of HT_.out (by kernel_rfl)) (fun _ _ _ h => h) (Or.inl ⟨by rfl, ?_⟩) ?_ ?_
        rotate_left
        ·intro w'
         go_simp
         with_reducible rfl
        rotate_left
        ·simp only [Act.put, List.setIfInBounds_toArray, List.set_cons_zero, List.set_cons_succ, i64_w, i32_w]
         rfl
        refine pure_ (i := 2) (N := some 23) (v := ?_) (a' := ?_) #[true, true, true, false, false, false, false, false, false] rfl rfl (any_of HT_.out (by kernel_rfl)) (fun _ _ _ h => h) (Or.inl ⟨by rfl, ?_⟩) ?_ ?_
        rotate_left
        ·intro w'
         go_simp
         with_reducible rfl
        rotate_left
        ·simp only [Act.put, List.setIfInBounds_toArray, List.set_cons_zero, List.set_cons_succ, i64_w, i32_w]
         rfl
        refine pure_ (i := 4) (N := some 25) (v := ?_) (a' := ?_) #[true, true, true, false, true, false, false, false, false] rfl rfl (any_of HT_.out (by kernel_rfl)) (fun _ _ _ h => h) (Or.inl ⟨by rfl, ?_⟩) ?_ ?_
        rotate_left
        ·intro w'
         go_simp
         with_reducible rfl
        rotate_left
        ·simp only [Act.put, List.setIfInBounds_toArray, List.set_cons_zero, List.set_cons_succ, i64_w, i32_w]
         rfl
        refine pure_ (i := 5) (N := some 26) (v := ?_) (a' := ?_) #[true, true, true, false, true, true, false, false, false] rfl rfl (any_of HT_.out (by kernel_rfl)) (fun _ _ _ h => h) (Or.inl ⟨by rfl, ?_⟩) ?_ ?_
        rotate_left
        ·intro w'
         go_simp
         with_reducible rfl
        rotate_left
        ·simp only [Act.put, List.setIfInBounds_toArray, List.set_cons_zero, List.set_cons_succ, i64_w, i32_w]
         rfl
        refine pure_ (i := 6) (N := some 27) (v := ?_) (a' := ?_) #[true, true, true, false, true, true, true, false, false] rfl rfl (any_of HT_.out (by kernel_rfl)) (fun _ _ _ h => h) (Or.inl ⟨by rfl, ?_⟩) ?_ ?_
        rotate_left
        ·intro w'
         go_simp
         with_reducible rfl
        rotate_left
        ·simp only [Act.put, List.setIfInBounds_toArray, List.set_cons_zero, List.set_cons_succ, i64_w, i32_w]
         rfl
        refine take_ (i := 3) (N := some 24) (v := ?_) (a' := ?_) #[true, true, true, true, true, true, true, false, false] rfl rfl (take_ofW HT_.out HW_.out (by kernel_rfl)) (fun _ _ _ h => h) (Or.inl ⟨by rfl, ?_⟩) hHeld ?_ ?_
        rotate_left
        ·rintro w' ⟨s0, s1⟩
         go_simp
         with_reducible rfl
        rotate_left
        ·simp only [Act.put, List.setIfInBounds_toArray, List.set_cons_zero, List.set_cons_succ, i64_w, i32_w]
         rfl
        refine take_ (i := 7) (N := some 28) (v := ?_) (a' := ?_) #[true, true, true, true, true, true, true, true, false] rfl rfl (take_ofW HT_.out HW_.out (by kernel_rfl)) (fun _ _ _ h => h) (Or.inl ⟨by rfl, ?_⟩) hHeld ?_ ?_
        rotate_left
        ·rintro w' ⟨s0, s1⟩
         go_simp
         with_reducible rfl
        rotate_left
        ·simp only [Act.put, List.setIfInBounds_toArray, List.set_cons_zero, List.set_cons_succ, i64_w, i32_w]
         rfl
        refine pure_ (i := 8) (N := some 29) (v := ?_) (a' := ?_) #[true, true, true, true, true, true, true, true, true] rfl rfl (any_of HT_.out (by kernel_rfl)) (fun _ _ _ h => h) (Or.inl ⟨by rfl, ?_⟩) ?_ ?_
        rotate_left
        ·intro w'
         go_simp
         with_reducible rfl
        rotate_left
        ·simp only [Act.put, List.setIfInBounds_toArray, List.set_cons_zero, List.set_cons_succ, i64_w, i32_w]
         rfl
        refine done_ (done_of HT_.out (by kernel_rfl)) ?_
        try go_wp2
        go_roundg k1
        case measure => have := HK1.out; omega
        case rel => exact ⟨(wrap64 (x5_1 + 1)), eq_now, H', ⟨by have := HK1.out; omega⟩, ⟨by (with_reducible repeat (first | apply Kd.R_alloc | apply Kd.R_drewN | apply Kd.R_drew)); exact HO_3.out⟩, ⟨by (with_reducible repeat (first | apply Kd.R_alloc | apply Kd.R_drewN | apply Kd.R_drew)); exact HO_4.out⟩, ⟨bk_now⟩, ⟨b_now⟩⟩
       ·rw [if_neg c15] at H
        have c15b0 : ((rd t583 x5_1) == (rd t586 x5_1)) = false := beq_eq_false_iff_ne.mpr c15
        have c15b1 : ((rd t583 x5_1) != (rd t586 x5_1)) = true := bne_iff_ne.mpr c15
        obtain rfl := Option.some.inj H
        exact absurd HRT.out (by simp)
      ·rw [if_neg c14] at H
       exact absurd H (by simp)
     ·rw [if_neg c13] at H
      exact absurd H (by simp)
    ·rw [if_neg c12] at H
     have c12b0 : decide (x5_1 < (t583.length : Int)) = false := decide_eq_false c12
     clear c12
     replace H := Option.bind_eq_some_iff.mp H; obtain ⟨t591, A170, H⟩ := H; try dsimp only at H
     have A17 := Aside0.mk A170
     clear A170
     replace H := Option.bind_eq_some_iff.mp H; obtain ⟨t592, A180, H⟩ := H; try dsimp only at H
     have A18 := Aside0.mk A180
     clear A180
     by_cases c19 : t591 = t592
     ·rw [if_pos c19] at H
      have c19b0 : (t591 == t592) = true := beq_iff_eq.mpr c19
      have c19b1 : (t591 != t592) = false := bne_eq_false_iff_eq.mpr c19
      clear c19
      replace H := Option.bind_eq_some_iff.mp H; obtain ⟨t593, A200, H⟩ := H; try dsimp only at H
      have A20 := Aside0.mk A200
      clear A200
      replace H := Option.bind_eq_some_iff.mp H; obtain ⟨t594, A210, H⟩ := H; try dsimp only at H
      have A21 := Aside0.mk A210
      clear A210
      by_cases c22 : t593 = t594
      ·rw [if_pos c22] at H
       have c22b0 : (t593 == t594) = true := beq_iff_eq.mpr c22
       have c22b1 : (t593 != t594) = false := bne_eq_false_iff_eq.mpr c22
       clear c22
       replace H := Option.bind_eq_some_iff.mp H; obtain ⟨t595, A230, H⟩ := H; try dsimp only at H
       have A23 := Aside0.mk A230
       clear A230
       obtain rfl := Option.some.inj H
       try go_wp2
       have n0_ := Aside0.mk (Kd.R_drew HO_3.out)
       have n1_ := Aside0.mk (Kd.R_drew HO_4.out)
       have n2_ := Aside0.mk (blk_drew BK582.out)
       have n3_ := Aside0.mk (below_drew1 HB.out)
       clear HO_3
       clear HO_4
       clear BK582
       clear HB
       have HO_3 := n0_
       have HO_4 := n1_
       have BK582 := n2_
       have HB := n3_
       clear n0_ n1_ n2_ n3_
       refine start_ (n := 16) (S := fun w' => w'.cell? ⟨gb582, 0, none⟩ = some (.int .u8 a0_0) ∧ w'.cell? ⟨gb582, 1, none⟩ = some (.int .u8 a0_1) ∧ w'.cell? ⟨gb582, 2, none⟩ = some (.int .u8 a0_2) ∧ w'.cell? ⟨gb582, 3, none⟩ = some (.int .i16 a0_3) ∧ w'.cell? ⟨gb582, 4, none⟩ = some (.int .i32 a0_4)) (ds := []) #[false, false, false, false, false, false, false, false, false, false, false, false, false, false, false, false] (by kernel_rfl) rfl rfl ⟨(blk_cell BK582.out 0).trans rfl, (blk_cell BK582.out 1).trans rfl, (blk_cell BK582.out 2).trans rfl, (blk_cell BK582.out 3).trans rfl, (blk_cell BK582.out 4).trans rfl⟩ (fun hHeld => ?_); refine with_tabW stockadelaw02_InsnUses.tab10 stockadelaw02_InsnUses.bits10 (fun HT_ HW_ => ?_)
       generalize wr.drew = w24 at HO_3 HO_4 BK582 HB hHeld ⊢
       refine take_ (i := 0) (N := some 30) (v := ?_) (a' := ?_) #[true, false, false, false, false, false, false, false, false, false, false, false, false, false, false, false] rfl rfl (take_ofW HT_.out HW_.out (by kernel_rfl)) (fun _ _ _ h => h) (Or.inl ⟨by rfl, ?_⟩) hHeld ?_ ?_
       rotate_left
       ·rintro w' ⟨s0, s1, s2, s3, s4⟩
        go_simp
        with_reducible rfl
       rotate_left
       ·simp only [Act.put, List.setIfInBounds_toArray, List.set_cons_zero, List.set_cons_succ, i64_w, i32_w]
        rfl
       refine take_ (i := 2) (N := some 32) (v := ?_) (a' := ?_) #[true, false, true, false, false, false, false, false, false, false, false, false, false, false, false, false] rfl rfl (take_ofW HT_.out HW_.out (by kernel_rfl)) (fun _ _ _ h => h) (Or.inl ⟨by rfl, ?_⟩) hHeld ?_ ?_
       rotate_left
       ·rintro w' ⟨s0, s1, s2, s3, s4⟩
        go_simp
        with_reducible rfl
       rotate_left
       ·simp only [Act.put, List.setIfInBounds_toArray, List.set_cons_zero, List.set_cons_succ, i64_w, i32_w]
        rfl
       refine one_ (i := 1) (N := some 31) #[true, true, true, false, false, false, false, false, false, false, false, false, false, false, false, false] rfl rfl (one_of HT_.out (by kernel_rfl)) (by decide) (fun K hK => ?_)
       refine goes_ Tryd.func26 (by kernel_rfl) rfl #[.agg #[.int .u8 a0_0, .int .u8 a0_1, .int .u8 a0_2, .int .i16 a0_3, .int .i32 a0_4]] (by rfl) rfl rfl (by (try simp only [List.map_toArray, List.map_cons, List.map_nil]); first | done | rfl | (simp only [List.length_drop, List.length_take]; rfl)) ?_
       with_reducible refine (insn_Writes.calls k1 a0_0 a0_1 a0_2 a0_3 a0_4 t591 _ ?side1 A17.out).mono ?_
       (case side1 => repeat (first | exact (Kd.C_below HRG0.out HB.out) | (with_reducible refine Kd.C_alloc ?_ _) | (with_reducible refine Kd.C_drewN ?_ _) | (with_reducible refine Kd.C_drew ?_)))
       rintro e w25 ⟨rfl, hb⟩
       refine ⟨_, rfl, ?_⟩
       have n0_ := Aside0.mk (Kd.R_below (by (with_reducible repeat (first | apply Kd.R_alloc | apply Kd.R_drewN | apply Kd.R_drew)); exact HO_3.out) hb)
       have n1_ := Aside0.mk (Kd.R_below (by (with_reducible repeat (first | apply Kd.R_alloc | apply Kd.R_drewN | apply Kd.R_drew)); exact HO_4.out) hb)
       have n2_ := Aside0.mk (blk_below (g := gb582) (o := .cells #[.int .u8 a0_0, .int .u8 a0_1, .int .u8 a0_2, .int .i16 a0_3, .int .i32 a0_4] 24 (0, 0)) bk_now hb)
       have n3_ := Aside0.mk (below_step b_now hb)
       clear HO_3
       clear HO_4
       clear BK582
       clear HB
       have HO_3 := n0_
       have HO_4 := n1_
       have BK582 := n2_
       have HB := n3_
       clear n0_ n1_ n2_ n3_
       (try clear hb)
       (try clear hb2)
       (try clear hk)
       (try clear hi)
       refine hK.out _ _ ⟨(blk_cell BK582.out 0).trans rfl, (blk_cell BK582.out 1).trans rfl, (blk_cell BK582.out 2).trans rfl, (blk_cell BK582.out 3).trans rfl, (blk_cell BK582.out 4).trans rfl⟩ (fun hHeld => ?_)
       clear hK K
       refine norm_ (a' := ?_) ?_ ?_
       rotate_left
       ·show Act.put _ (some 31) _ = _
        simp only [Act.put, List.setIfInBounds_toArray, List.set_cons_zero, List.set_cons_succ, i64_w, i32_w]
        rfl
       refine one_ (i := 3) (N := some 33) #[true, true, true, true, false, false, false, false, false, false, false, false, false, false, false, false] rfl rfl (one_of HT_.out (by kernel_rfl)) (by decide) (fun K hK => ?_)
       refine goes_ Tryd.func27 (by kernel_rfl) rfl #[.agg #[.int .u8 a0_0, .int .u8 a0_1, .int .u8 a0_2, .int .i16 a0_3, .int .i32 a0_4]] (by rfl) rfl rfl (by (try simp only [List.map_toArray, List.map_cons, List.map_nil]); first | done | rfl | (simp only [List.length_drop, List.length_take]; rfl)) ?_
       with_reducible refine (stockaderef02_Writes.calls k1 a0_0 a0_1 a0_2 a0_3 a0_4 t592 _ A18.out).mono ?_
       rintro e w26 ⟨rfl, hb⟩
       refine ⟨_, rfl, ?_⟩
       have n0_ := Aside0.mk (Kd.R_below (by (with_reducible repeat (first | apply Kd.R_alloc | apply Kd.R_drewN | apply Kd.R_drew)); exact HO_3.out) hb)
       have n1_ := Aside0.mk (Kd.R_below (by (with_reducible repeat (first | apply Kd.R_alloc | apply Kd.R_drewN | apply Kd.R_drew)); exact HO_4.out) hb)
       have n2_ := Aside0.mk (blk_below (g := gb582) (o := .cells #[.int .u8 a0_0, .int .u8 a0_1, .int .u8 a0_2, .int .i16 a0_3, .int .i32 a0_4] 24 (0, 0)) bk_now hb)
       have n3_ := Aside0.mk (below_step b_now hb)
       clear HO_3
       clear HO_4
       clear BK582
       clear HB
       have HO_3 := n0_
       have HO_4 := n1_
       have BK582 := n2_
       have HB := n3_
       clear n0_ n1_ n2_ n3_
       (try clear hb)
       (try clear hb2)
       (try clear hk)
       (try clear hi)
       refine hK.out _ _ ⟨(blk_cell BK582.out 0).trans rfl, (blk_cell BK582.out 1).trans rfl, (blk_cell BK582.out 2).trans rfl, (blk_cell BK582.out 3).trans rfl, (blk_cell BK582.out 4).trans rfl⟩ (fun hHeld => ?_)
       clear hK K
       refine norm_ (a' := ?_) ?_ ?_
       rotate_left
       ·show Act.put _ (some 33) _ = _
        simp only [Act.put, List.setIfInBounds_toArray, List.set_cons_zero, List.set_cons_succ, i64_w, i32_w]
        rfl
       refine pure_ (i := 4) (N := some 34) (v := ?_) (a' := ?_) #[true, true, true, true, true, false, false, false, false, false, false, false, false, false, false, false] rfl rfl (any_of HT_.out (by kernel_rfl)) (fun _ _ _ h => h) (Or.inl ⟨by rfl, ?_⟩) ?_ ?_
       rotate_left
       ·intro w'
        go_simp
        with_reducible rfl
       rotate_left
       ·simp only [Act.put, List.setIfInBounds_toArray, List.set_cons_zero, List.set_cons_succ, i64_w, i32_w]
        rfl
       refine pure_ (i := 5) (N := some 35) (v := ?_) (a' := ?_) #[true, true, true, true, true, true, false, false, false, false, false, false, false, false, false, false] rfl rfl (any_of HT_.out (by kernel_rfl)) (fun _ _ _ h => h) (Or.inl ⟨by rfl, ?_⟩) ?_ ?_
       rotate_left
       ·intro w'
        go_simp
        with_reducible rfl
       rotate_left
       ·simp only [Act.put, List.setIfInBounds_toArray, List.set_cons_zero, List.set_cons_succ, i64_w, i32_w]
        rfl
       refine take_ (i := 6) (N := some 36) (v := ?_) (a' := ?_) #[true, true, true, true, true, true, true, false, false, false, false, false, false, false, false, false] rfl rfl (take_ofW HT_.out HW_.out (by kernel_rfl)) (fun _ _ _ h => h) (Or.inl ⟨by rfl, ?_⟩) hHeld ?_ ?_
       rotate_left
       ·rintro w' ⟨s0, s1, s2, s3, s4⟩
        go_simp
        with_reducible rfl
       rotate_left
       ·simp only [Act.put, List.setIfInBounds_toArray, List.set_cons_zero, List.set_cons_succ, i64_w, i32_w]
        rfl
       refine take_ (i := 8) (N := some 38) (v := ?_) (a' := ?_) #[true, true, true, true, true, true, true, false, true, false, false, false, false, false, false, false] rfl rfl (take_ofW HT_.out HW_.out (by kernel_rfl)) (fun _ _ _ h => h) (Or.inl ⟨by rfl, ?_⟩) hHeld ?_ ?_
       rotate_left
       ·rintro w' ⟨s0, s1, s2, s3, s4⟩
        go_simp
        with_reducible rfl
       rotate_left
       ·simp only [Act.put, List.setIfInBounds_toArray, List.set_cons_zero, List.set_cons_succ, i64_w, i32_w]
        rfl
       refine one_ (i := 7) (N := some 37) #[true, true, true, true, true, true, true, true, true, false, false, false, false, false, false, false] rfl rfl (one_of HT_.out (by kernel_rfl)) (by decide) (fun K hK => ?_)
       refine goes_ Tryd.func28 (by kernel_rfl) rfl #[.agg #[.int .u8 a0_0, .int .u8 a0_1, .int .u8 a0_2, .int .i16 a0_3, .int .i32 a0_4]] (by rfl) rfl rfl (by (try simp only [List.map_toArray, List.map_cons, List.map_nil]); first | done | rfl | (simp only [List.length_drop, List.length_take]; rfl)) ?_
       with_reducible refine (insn_Places.calls k1 a0_0 a0_1 a0_2 a0_3 a0_4 t593 _ ?side1 A20.out).mono ?_
       (case side1 => repeat (first | exact (Kd.C_below HRG0.out HB.out) | (with_reducible refine Kd.C_alloc ?_ _) | (with_reducible refine Kd.C_drewN ?_ _) | (with_reducible refine Kd.C_drew ?_)))
       rintro e w27 ⟨rfl, hb⟩
       refine ⟨_, rfl, ?_⟩
       have n0_ := Aside0.mk (Kd.R_below (by (with_reducible repeat (first | apply Kd.R_alloc | apply Kd.R_drewN | apply Kd.R_drew)); exact HO_3.out) hb)
       have n1_ := Aside0.mk (Kd.R_below (by (with_reducible repeat (first | apply Kd.R_alloc | apply Kd.R_drewN | apply Kd.R_drew)); exact HO_4.out) hb)
       have n2_ := Aside0.mk (blk_below (g := gb582) (o := .cells #[.int .u8 a0_0, .int .u8 a0_1, .int .u8 a0_2, .int .i16 a0_3, .int .i32 a0_4] 24 (0, 0)) bk_now hb)
       have n3_ := Aside0.mk (below_step b_now hb)
       clear HO_3
       clear HO_4
       clear BK582
       clear HB
       have HO_3 := n0_
       have HO_4 := n1_
       have BK582 := n2_
       have HB := n3_
       clear n0_ n1_ n2_ n3_
       (try clear hb)
       (try clear hb2)
       (try clear hk)
       (try clear hi)
       refine hK.out _ _ ⟨(blk_cell BK582.out 0).trans rfl, (blk_cell BK582.out 1).trans rfl, (blk_cell BK582.out 2).trans rfl, (blk_cell BK582.out 3).trans rfl, (blk_cell BK582.out 4).trans rfl⟩ (fun hHeld => ?_)
       clear hK K
       refine norm_ (a' := ?_) ?_ ?_
       rotate_left
       ·show Act.put _ (some 37) _ = _
        simp only [Act.put, List.setIfInBounds_toArray, List.set_cons_zero, List.set_cons_succ, i64_w, i32_w]
        rfl
       refine one_ (i := 9) (N := some 39) #[true, true, true, true, true, true, true, true, true, true, false, false, false, false, false, false] rfl rfl (one_of HT_.out (by kernel_rfl)) (by decide) (fun K hK => ?_)
       refine goes_ Tryd.func29 (by kernel_rfl) rfl #[.agg #[.int .u8 a0_0, .int .u8 a0_1, .int .u8 a0_2, .int .i16 a0_3, .int .i32 a0_4]] (by rfl) rfl rfl (by (try simp only [List.map_toArray, List.map_cons, List.map_nil]); first | done | rfl | (simp only [List.length_drop, List.length_take]; rfl)) ?_
       with_reducible refine (stockaderef02_Places.calls k1 a0_0 a0_1 a0_2 a0_3 a0_4 t594 _ A21.out).mono ?_
       rintro e w28 ⟨rfl, hb⟩
       refine ⟨_, rfl, ?_⟩
       have n0_ := Aside0.mk (Kd.R_below (by (with_reducible repeat (first | apply Kd.R_alloc | apply Kd.R_drewN | apply Kd.R_drew)); exact HO_3.out) hb)
       have n1_ := Aside0.mk (Kd.R_below (by (with_reducible repeat (first | apply Kd.R_alloc | apply Kd.R_drewN | apply Kd.R_drew)); exact HO_4.out) hb)
       have n2_ := Aside0.mk (blk_below (g := gb582) (o := .cells #[.int .u8 a0_0, .int .u8 a0_1, .int .u8 a0_2, .int .i16 a0_3, .int .i32 a0_4] 24 (0, 0)) bk_now hb)
       have n3_ := Aside0.mk (below_step b_now hb)
       clear HO_3
       clear HO_4
       clear BK582
       clear HB
       have HO_3 := n0_
       have HO_4 := n1_
       have BK582 := n2_
       have HB := n3_
       clear n0_ n1_ n2_ n3_
       (try clear hb)
       (try clear hb2)
       (try clear hk)
       (try clear hi)
       refine hK.out _ _ ⟨(blk_cell BK582.out 0).trans rfl, (blk_cell BK582.out 1).trans rfl, (blk_cell BK582.out 2).trans rfl, (blk_cell BK582.out 3).trans rfl, (blk_cell BK582.out 4).trans rfl⟩ (fun hHeld => ?_)
       clear hK K
       refine norm_ (a' := ?_) ?_ ?_
       rotate_left
       ·show Act.put _ (some 39) _ = _
        simp only [Act.put, List.setIfInBounds_toArray, List.set_cons_zero, List.set_cons_succ, i64_w, i32_w]
        rfl
       refine pure_ (i := 10) (N := some 40) (v := ?_) (a' := ?_) #[true, true, true, true, true, true, true, true, true, true, true, false, false, false, false, false] rfl rfl (any_of HT_.out (by kernel_rfl)) (fun _ _ _ h => h) (Or.inl ⟨by rfl, ?_⟩) ?_ ?_
       rotate_left
       ·intro w'
        go_simp
        with_reducible rfl
       rotate_left
       ·simp only [Act.put, List.setIfInBounds_toArray, List.set_cons_zero, List.set_cons_succ, i64_w, i32_w]
        rfl
       refine pure_ (i := 11) (N := some 41) (v := ?_) (a' := ?_) #[true, true, true, true, true, true, true, true, true, true, true, true, false, false, false, false] rfl rfl (any_of HT_.out (by kernel_rfl)) (fun _ _ _ h => h) (Or.inl ⟨by rfl, ?_⟩) ?_ ?_
       rotate_left
       ·intro w'
        go_simp
        with_reducible rfl
       rotate_left
       ·simp only [Act.put, List.setIfInBounds_toArray, List.set_cons_zero, List.set_cons_succ, i64_w, i32_w]
        rfl
       refine pure_ (i := 12) (N := some 42) (v := ?_) (a' := ?_) #[true, true, true, true, true, true, true, true, true, true, true, true, true, false, false, false] rfl rfl (any_of HT_.out (by kernel_rfl)) (fun _ _ _ h => h) (Or.inl ⟨by rfl, ?_⟩) ?_ ?_
       rotate_left
       ·intro w'
        go_simp
        with_reducible rfl
       rotate_left
       ·simp only [Act.put, List.setIfInBounds_toArray, List.set_cons_zero, List.set_cons_succ, i64_w, i32_w]
        rfl
       refine one_ (i := 13) (N := some 43) #[true, true, true, true, true, true, true, true, true, true, true, true, true, true, false, false] rfl rfl (one_of HT_.out (by kernel_rfl)) (by decide) (fun K hK => ?_)
       refine goes_ Tryd.func15 (by kernel_rfl) rfl #[] (by rfl) rfl rfl (by (try simp only [List.map_toArray, List.map_cons, List.map_nil]); first | done | rfl | (simp only [List.length_drop, List.length_take]; rfl)) ?_
       with_reducible refine (stockadelaw02_wakes.calls k1  t595 _ ?side1 (by first | rfl | exact HRT.out) A23.out).mono ?_
       (case side1 => repeat (first | exact (Kd.C_below HRG0.out HB.out) | (with_reducible refine Kd.C_alloc ?_ _) | (with_reducible refine Kd.C_drewN ?_ _) | (with_reducible refine Kd.C_drew ?_)))
       rintro e w29 ⟨rfl, hb⟩
       refine ⟨_, rfl, ?_⟩
       have n0_ := Aside0.mk (Kd.R_below (by (with_reducible repeat (first | apply Kd.R_alloc | apply Kd.R_drewN | apply Kd.R_drew)); exact HO_3.out) hb)
       have n1_ := Aside0.mk (Kd.R_below (by (with_reducible repeat (first | apply Kd.R_alloc | apply Kd.R_drewN | apply Kd.R_drew)); exact HO_4.out) hb)
       have n2_ := Aside0.mk (blk_below (g := gb582) (o := .cells #[.int .u8 a0_0, .int .u8 a0_1, .int .u8 a0_2, .int .i16 a0_3, .int .i32 a0_4] 24 (0, 0)) bk_now hb)
       have n3_ := Aside0.mk (below_step b_now hb)
       clear HO_3
       clear HO_4
       clear BK582
       clear HB
       have HO_3 := n0_
       have HO_4 := n1_
       have BK582 := n2_
       have HB := n3_
       clear n0_ n1_ n2_ n3_
       (try clear hb)
       (try clear hb2)
       (try clear hk)
       (try clear hi)
       refine hK.out _ _ ⟨(blk_cell BK582.out 0).trans rfl, (blk_cell BK582.out 1).trans rfl, (blk_cell BK582.out 2).trans rfl, (blk_cell BK582.out 3).trans rfl, (blk_cell BK582.out 4).trans rfl⟩ (fun hHeld => ?_)
       clear hK K
       refine norm_ (a' := ?_) ?_ ?_
       rotate_left
       ·show Act.put _ (some 43) _ = _
        simp only [Act.put, List.setIfInBounds_toArray, List.set_cons_zero, List.set_cons_succ, i64_w, i32_w]
        rfl
       refine pure_ (i := 14) (N := some 44) (v := ?_) (a' := ?_) #[true, true, true, true, true, true, true, true, true, true, true, true, true, true, true, false] rfl rfl (any_of HT_.out (by kernel_rfl)) (fun _ _ _ h => h) (Or.inl ⟨by rfl, ?_⟩) ?_ ?_
       rotate_left
       ·intro w'
        go_simp
        with_reducible rfl
       rotate_left
       ·simp only [Act.put, List.setIfInBounds_toArray, List.set_cons_zero, List.set_cons_succ, i64_w, i32_w]
        rfl
       refine pure_ (i := 15) (N := some 2) (v := ?_) (a' := ?_) #[true, true, true, true, true, true, true, true, true, true, true, true, true, true, true, true] rfl rfl (any_of HT_.out (by kernel_rfl)) (fun _ _ _ h => h) (Or.inl ⟨by rfl, ?_⟩) ?_ ?_
       rotate_left
       ·intro w'
        go_simp
        with_reducible rfl
       rotate_left
       ·simp only [Act.put, List.setIfInBounds_toArray, List.set_cons_zero, List.set_cons_succ, i64_w, i32_w]
        rfl
       refine done_ (done_of HT_.out (by kernel_rfl)) ?_
       try go_wp2
       go_ret
       exact ⟨ret_now, b_now⟩
      ·rw [if_neg c22] at H
       have c22b0 : (t593 == t594) = false := beq_eq_false_iff_ne.mpr c22
       have c22b1 : (t593 != t594) = true := bne_iff_ne.mpr c22
       obtain rfl := Option.some.inj H
       exact absurd HRT.out (by simp)
     ·rw [if_neg c19] at H
      have c19b0 : (t591 == t592) = false := beq_eq_false_iff_ne.mpr c19
      have c19b1 : (t591 != t592) = true := bne_iff_ne.mpr c19
      obtain rfl := Option.some.inj H
      exact absurd HRT.out (by simp)
 ·rw [if_neg c4] at H
  have c4b0 : ((t583.length : Int) == (t586.length : Int)) = false := beq_eq_false_iff_ne.mpr c4
  have c4b1 : ((t583.length : Int) != (t586.length : Int)) = true := bne_iff_ne.mpr c4
  have c4b2 : (t583.length == t586.length) = false := by first | simpa using c4 | (simp at c4 ⊢; omega)
  obtain rfl := Option.some.inj H
  exact absurd HRT.out (by simp)

end Go.Proofs.YtkojjjdeacdabaaDoor.P
