/- Made by this session's driver over the kit's printer: for each Go function a Lean function with the same answers, and a proof that the Go call comes to these answers; no conditions but the ones each theorem names. -/
import Derived.Test.YtdhiibkcoolbeaaDoorPx0
import Derived.Test.YtdhiibkcoolbeaaDoorPx7
namespace Go.Proofs.YtdhiibkcoolbeaaDoor.P
open Go.RowKit Go.Proofs.YtdhiibkcoolbeaaDoorW.PrintWords Go.Proofs.YtdhiibkcoolbeaaDoorW.PrintLast Go.Proofs.YtdhiibkcoolbeaaDoorW.PrintMore
attribute [local go_sem] max2_int min2_int max_two min_two max_three min_three max_four min_four   -- for this text's walks alone
set_option linter.unusedVariables false
set_option linter.unusedSimpArgs false

/-! ### insn_Places: function 23 -/
def insn_Places.f (k : Nat) (a0_0 : Int) (a0_1 : Int) (a0_2 : Int) (a0_3 : Int) (a0_4 : Int) : Option (Int) := (insn_Of.f k a0_0 a0_1 a0_2 a0_3 a0_4).bind fun bt156 => (if bt156.2.2.2.2.2 = 0 then (if bt156.1 = 10 then (some 2) else (if bt156.1 = 11 then (some 2) else (some 1))) else (some 0))
theorem insn_Places.mono : ∀ a0 a1 a2 a3 a4 k, LeO (insn_Places.f k a0 a1 a2 a3 a4) (insn_Places.f (k + 1) a0 a1 a2 a3 a4) := by
 intro a0 a1 a2 a3 a4 k
 unfold insn_Places.f
 repeat' first
   | (with_reducible exact insn_Of.mono _ _ _ _ _ _)
   | (with_reducible exact LeO.refl _)
   | (with_reducible exact LeO.none _)
   | (with_reducible refine LeO.ite ?_ ?_)
   | (with_reducible refine LeO.bind ?_ (fun _ => ?_))
   | exact insn_Of.mono _ _ _ _ _ _
   | exact LeO.none _
   | refine LeO.ite ?_ ?_
   | refine LeO.bind ?_ (fun _ => ?_)
set_option maxHeartbeats 8000000 in
set_option maxRecDepth 100000 in
theorem insn_Places.calls (k : Nat) (a0_0 : Int) (a0_1 : Int) (a0_2 : Int) (a0_3 : Int) (a0_4 : Int) (r : Int) (w : World) (hrG0 : Kd.C (Kd.int .i64) w (some ⟨0, 0, none⟩) gl0.length gl0) (h : insn_Places.f k a0_0 a0_1 a0_2 a0_3 a0_4 = some r) :
  Calls Tryd.prog 23 #[.agg #[.int .u8 a0_0, .int .u8 a0_1, .int .u8 a0_2, .int .i16 a0_3, .int .i32 a0_4]] w fun e w' => e = .returned (.int .i64 r) ∧ Below w.heap.size w w' := by
 have hu40 := Tryd.underlying40
 have hu45 := Tryd.underlying45
 have HRG0 := Aside0.mk hrG0
 clear hrG0
 have HB := Aside0.mk (Below.refl w.heap.size w)
 have H : ((insn_Of.f k a0_0 a0_1 a0_2 a0_3 a0_4).bind fun bt156 => (if bt156.2.2.2.2.2 = 0 then (if bt156.1 = 10 then (some 2) else (if bt156.1 = 11 then (some 2) else (some 1))) else (some 0))) = some r := h
 clear h
 replace H := Option.bind_eq_some_iff.mp H; obtain ⟨⟨t156, t157, t158, t159, t160, t161⟩, A20, H⟩ := H; try dsimp only at H
 have A2 := Aside0.mk A20
 clear A20
 by_cases c3 : t161 = 0
 ·rw [if_pos c3] at H
  have c3b0 : (t161 == 0) = true := beq_iff_eq.mpr c3
  have c3b1 : (t161 != 0) = false := bne_eq_false_iff_eq.mpr c3
  clear c3
  by_cases c4 : t156 = 10
  ·rw [if_pos c4] at H
   have c4b0 : (t156 == 10) = true := beq_iff_eq.mpr c4
   have c4b1 : (t156 != 10) = false := bne_eq_false_iff_eq.mpr c4
   clear c4
   obtain rfl := Option.some.inj H
   go_enter Tryd.func23, Tryd.ntmps23
   go_wp2_with (first | ((with_reducible refine gate_dst (N := 1) rfl ?_); refine sh_box 1 #[.int .u8 a0_0, .int .u8 a0_1, .int .u8 a0_2, .int .i16 a0_3, .int .i32 a0_4] 40 ?_; intro gb155 hg w5 hbox hb; have GE155 := sh_z (w := w) hg; replace HB := sh_b (w := w) hb; have BK155 := Aside0.mk (hbox); clear hb hbox hg; have hcz6 := blk_all5 BK155.out) | ((with_reducible refine gate_callee (f := 22) rfl ?_); refine sh_call (some 7) Tryd.func22 #[.agg #[.int .u8 a0_0, .int .u8 a0_1, .int .u8 a0_2, .int .i16 a0_3, .int .i32 a0_4]] ?_; (with_reducible refine (insn_Of.calls k a0_0 a0_1 a0_2 a0_3 a0_4 t156 t157 t158 t159 t160 t161 _ ?side1 A2.out).mono ?_); (case side1 => repeat (first | exact (Kd.C_below HRG0.out HB.out) | (with_reducible refine Kd.C_alloc ?_ _) | (with_reducible refine Kd.C_drewN ?_ _) | (with_reducible refine Kd.C_drew ?_))); rintro e w7 ⟨rfl, hb⟩; refine ⟨_, rfl, ?_⟩; replace BK155 := sh_k BK155 hb; replace HB := sh_b (w := w) hb; (try clear hb); (try clear hb2); (try clear hk); (try clear hi)) | ((with_reducible refine gate_dst (N := 3) rfl ?_); refine sh_box 3 #[.int .i64 0, .int .i64 0, .int .i64 0, .bool false, .bool false] 45 ?_; intro gb162 hg w8 hbox hb; have GE162 := sh_z (w := w) hg; have NB155_162 := sh_n BK155 hg; have NB162_155 := sh_s NB155_162; replace BK155 := sh_k BK155 hb; replace HB := sh_b (w := w) hb; have BK162 := Aside0.mk (hbox); clear hb hbox hg; have hnb9 := NB162_155.out; have hnc9 := NB155_162.out; have hcz10 := blk_all5 BK162.out))
   go_ret
   exact ⟨ret_now, b_now⟩
  ·rw [if_neg c4] at H
   have c4b0 : (t156 == 10) = false := beq_eq_false_iff_ne.mpr c4
   have c4b1 : (t156 != 10) = true := bne_iff_ne.mpr c4
   by_cases c11 : t156 = 11
   ·rw [if_pos c11] at H
    have c11b0 : (t156 == 11) = true := beq_iff_eq.mpr c11
    have c11b1 : (t156 != 11) = false := bne_eq_false_iff_eq.mpr c11
    clear c11
    obtain rfl := Option.some.inj H
    go_enter Tryd.func23, Tryd.ntmps23
    go_wp2_with (first | ((with_reducible refine gate_dst (N := 1) rfl ?_); refine sh_box 1 #[.int .u8 a0_0, .int .u8 a0_1, .int .u8 a0_2, .int .i16 a0_3, .int .i32 a0_4] 40 ?_; intro gb155 hg w12 hbox hb; have GE155 := sh_z (w := w) hg; replace HB := sh_b (w := w) hb; have BK155 := Aside0.mk (hbox); clear hb hbox hg; have hcz13 := blk_all5 BK155.out) | ((with_reducible refine gate_callee (f := 22) rfl ?_); refine sh_call (some 7) Tryd.func22 #[.agg #[.int .u8 a0_0, .int .u8 a0_1, .int .u8 a0_2, .int .i16 a0_3, .int .i32 a0_4]] ?_; (with_reducible refine (insn_Of.calls k a0_0 a0_1 a0_2 a0_3 a0_4 t156 t157 t158 t159 t160 t161 _ ?side1 A2.out).mono ?_); (case side1 => repeat (first | exact (Kd.C_below HRG0.out HB.out) | (with_reducible refine Kd.C_alloc ?_ _) | (with_reducible refine Kd.C_drewN ?_ _) | (with_reducible refine Kd.C_drew ?_))); rintro e w14 ⟨rfl, hb⟩; refine ⟨_, rfl, ?_⟩; replace BK155 := sh_k BK155 hb; replace HB := sh_b (w := w) hb; (try clear hb); (try clear hb2); (try clear hk); (try clear hi)) | ((with_reducible refine gate_dst (N := 3) rfl ?_); refine sh_box 3 #[.int .i64 0, .int .i64 0, .int .i64 0, .bool false, .bool false] 45 ?_; intro gb162 hg w15 hbox hb; have GE162 := sh_z (w := w) hg; have NB155_162 := sh_n BK155 hg; have NB162_155 := sh_s NB155_162; replace BK155 := sh_k BK155 hb; replace HB := sh_b (w := w) hb; have BK162 := Aside0.mk (hbox); clear hb hbox hg; have hnb16 := NB162_155.out; have hnc16 := NB155_162.out; have hcz17 := blk_all5 BK162.out))
    go_ret
    exact ⟨ret_now, b_now⟩
   ·rw [if_neg c11] at H
    have c11b0 : (t156 == 11) = false := beq_eq_false_iff_ne.mpr c11
    have c11b1 : (t156 != 11) = true := bne_iff_ne.mpr c11
    obtain rfl := Option.some.inj H
    go_enter Tryd.func23, Tryd.ntmps23
    go_wp2_with (first | ((with_reducible refine gate_dst (N := 1) rfl ?_); refine sh_box 1 #[.int .u8 a0_0, .int .u8 a0_1, .int .u8 a0_2, .int .i16 a0_3, .int .i32 a0_4] 40 ?_; intro gb155 hg w18 hbox hb; have GE155 := sh_z (w := w) hg; replace HB := sh_b (w := w) hb; have BK155 := Aside0.mk (hbox); clear hb hbox hg; have hcz19 := blk_all5 BK155.out) | ((with_reducible refine gate_callee (f := 22) rfl ?_); refine sh_call (some 7) Tryd.func22 #[.agg #[.int .u8 a0_0, .int .u8 a0_1, .int .u8 a0_2, .int .i16 a0_3, .int .i32 a0_4]] ?_; (with_reducible refine (insn_Of.calls k a0_0 a0_1 a0_2 a0_3 a0_4 t156 t157 t158 t159 t160 t161 _ ?side1 A2.out).mono ?_); (case side1 => repeat (first | exact (Kd.C_below HRG0.out HB.out) | (with_reducible refine Kd.C_alloc ?_ _) | (with_reducible refine Kd.C_drewN ?_ _) | (with_reducible refine Kd.C_drew ?_))); rintro e w20 ⟨rfl, hb⟩; refine ⟨_, rfl, ?_⟩; replace BK155 := sh_k BK155 hb; replace HB := sh_b (w := w) hb; (try clear hb); (try clear hb2); (try clear hk); (try clear hi)) | ((with_reducible refine gate_dst (N := 3) rfl ?_); refine sh_box 3 #[.int .i64 0, .int .i64 0, .int .i64 0, .bool false, .bool false] 45 ?_; intro gb162 hg w21 hbox hb; have GE162 := sh_z (w := w) hg; have NB155_162 := sh_n BK155 hg; have NB162_155 := sh_s NB155_162; replace BK155 := sh_k BK155 hb; replace HB := sh_b (w := w) hb; have BK162 := Aside0.mk (hbox); clear hb hbox hg; have hnb22 := NB162_155.out; have hnc22 := NB155_162.out; have hcz23 := blk_all5 BK162.out))
    go_ret
    exact ⟨ret_now, b_now⟩
 ·rw [if_neg c3] at H
  have c3b0 : (t161 == 0) = false := beq_eq_false_iff_ne.mpr c3
  have c3b1 : (t161 != 0) = true := bne_iff_ne.mpr c3
  obtain rfl := Option.some.inj H
  go_enter Tryd.func23, Tryd.ntmps23
  go_wp2_with (first | ((with_reducible refine gate_dst (N := 1) rfl ?_); refine sh_box 1 #[.int .u8 a0_0, .int .u8 a0_1, .int .u8 a0_2, .int .i16 a0_3, .int .i32 a0_4] 40 ?_; intro gb155 hg w24 hbox hb; have GE155 := sh_z (w := w) hg; replace HB := sh_b (w := w) hb; have BK155 := Aside0.mk (hbox); clear hb hbox hg; have hcz25 := blk_all5 BK155.out) | ((with_reducible refine gate_callee (f := 22) rfl ?_); refine sh_call (some 7) Tryd.func22 #[.agg #[.int .u8 a0_0, .int .u8 a0_1, .int .u8 a0_2, .int .i16 a0_3, .int .i32 a0_4]] ?_; (with_reducible refine (insn_Of.calls k a0_0 a0_1 a0_2 a0_3 a0_4 t156 t157 t158 t159 t160 t161 _ ?side1 A2.out).mono ?_); (case side1 => repeat (first | exact (Kd.C_below HRG0.out HB.out) | (with_reducible refine Kd.C_alloc ?_ _) | (with_reducible refine Kd.C_drewN ?_ _) | (with_reducible refine Kd.C_drew ?_))); rintro e w26 ⟨rfl, hb⟩; refine ⟨_, rfl, ?_⟩; replace BK155 := sh_k BK155 hb; replace HB := sh_b (w := w) hb; (try clear hb); (try clear hb2); (try clear hk); (try clear hi)) | ((with_reducible refine gate_dst (N := 3) rfl ?_); refine sh_box 3 #[.int .i64 0, .int .i64 0, .int .i64 0, .bool false, .bool false] 45 ?_; intro gb162 hg w27 hbox hb; have GE162 := sh_z (w := w) hg; have NB155_162 := sh_n BK155 hg; have NB162_155 := sh_s NB155_162; replace BK155 := sh_k BK155 hb; replace HB := sh_b (w := w) hb; have BK162 := Aside0.mk (hbox); clear hb hbox hg; have hnb28 := NB162_155.out; have hnc28 := NB155_162.out; have hcz29 := blk_all5 BK162.out))
  go_ret
  exact ⟨ret_now, b_now⟩

-- NOT PRINTED: function 34 (shape_begins_lit1)

-- NOT PRINTED: function 26 (shape_begins)

end Go.Proofs.YtdhiibkcoolbeaaDoor.P
