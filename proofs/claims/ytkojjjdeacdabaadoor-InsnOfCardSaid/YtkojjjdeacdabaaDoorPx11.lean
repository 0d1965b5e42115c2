/- Made by this session's driver over the kit's printer: for each Go function a Lean function with the same answers, and a proof that the Go call comes to these answers; no conditions but the ones each theorem names. -/
import Derived.Test.YtkojjjdeacdabaaDoorPx0
import Derived.Test.YtkojjjdeacdabaaDoorPx6
import Derived.Test.YtkojjjdeacdabaaDoorPx9
import Derived.Test.YtkojjjdeacdabaaDoorPx10
namespace Go.Proofs.YtkojjjdeacdabaaDoor.P
open Go.RowKit Go.Proofs.YtkojjjdeacdabaaDoorW.PrintWords Go.Proofs.YtkojjjdeacdabaaDoorW.PrintLast Go.Proofs.YtkojjjdeacdabaaDoorW.PrintMore
attribute [local go_sem] max2_int min2_int max_two min_two max_three min_three max_four min_four   -- for this text's walks alone
set_option linter.unusedVariables false
set_option linter.unusedSimpArgs false

/-! ### stockadelaw02_InsnOf: function 3 -/
def stockadelaw02_InsnOf.f (k : Nat) (a0_0 : Int) (a0_1 : Int) (a0_2 : Int) (a0_3 : Int) (a0_4 : Int) : Option (Bool) := (insn_Of.f k a0_0 a0_1 a0_2 a0_3 a0_4).bind fun bt282 => ((stockaderef02_Of.f k a0_0 a0_1 a0_2 a0_3 a0_4).bind fun bt289 => (if bt282.2.2.2.2.2 = bt289.2.2.2.2.2 then ((stockadelaw02_is.f bt282.1 bt282.2.1 bt282.2.2.1 bt282.2.2.2.1 bt282.2.2.2.2.1 bt289.1 bt289.2.1 bt289.2.2.1 bt289.2.2.2.1 bt289.2.2.2.2.1).bind fun t296 => (if t296 = true then ((stockadelaw02_wakes.f k).bind fun t297 => (some t297)) else (some false))) else (some false)))
theorem stockadelaw02_InsnOf.mono : ∀ a0 a1 a2 a3 a4 k, LeO (stockadelaw02_InsnOf.f k a0 a1 a2 a3 a4) (stockadelaw02_InsnOf.f (k + 1) a0 a1 a2 a3 a4) := by
 intro a0 a1 a2 a3 a4 k
 unfold stockadelaw02_InsnOf.f
 repeat' first
   | (with_reducible exact insn_Of.mono _ _ _ _ _ _)
   | (with_reducible exact stockadelaw02_wakes.mono _)
   | (with_reducible exact stockaderef02_Of.mono _ _ _ _ _ _)
   | (with_reducible exact LeO.refl _)
   | (with_reducible exact LeO.none _)
   | (with_reducible refine LeO.ite ?_ ?_)
   | (with_reducible refine LeO.bind ?_ (fun _ => ?_))
   | exact insn_Of.mono _ _ _ _ _ _
   | exact stockadelaw02_wakes.mono _
   | exact stockaderef02_Of.mono _ _ _ _ _ _
   | exact LeO.none _
   | refine LeO.ite ?_ ?_
   | refine LeO.bind ?_ (fun _ => ?_)
set_option maxHeartbeats 8000000 in
set_option maxRecDepth 100000 in
theorem stockadelaw02_InsnOf.calls (k : Nat) (a0_0 : Int) (a0_1 : Int) (a0_2 : Int) (a0_3 : Int) (a0_4 : Int) (r : Bool) (w : World) (hrG0 : Kd.C (Kd.int .i64) w (some ⟨0, 0, none⟩) gl0.length gl0) (hr_ : r = true) (h : stockadelaw02_InsnOf.f k a0_0 a0_1 a0_2 a0_3 a0_4 = some r) :
  Calls Tryd.prog 3 #[.agg #[.int .u8 a0_0, .int .u8 a0_1, .int .u8 a0_2, .int .i16 a0_3, .int .i32 a0_4]] w fun e w' => e = .returned (.bool r) ∧ Below w.heap.size w w' := by
 have hu24 := Tryd.underlying24
 have hu26 := Tryd.underlying26
 have hu30 := Tryd.underlying30
 have HRG0 := Aside0.mk hrG0
 clear hrG0
 have HRT := Aside0.mk hr_
 clear hr_
 have HB := Aside0.mk (Below.refl w.heap.size w)
 have H : ((insn_Of.f k a0_0 a0_1 a0_2 a0_3 a0_4).bind fun bt282 => ((stockaderef02_Of.f k a0_0 a0_1 a0_2 a0_3 a0_4).bind fun bt289 => (if bt282.2.2.2.2.2 = bt289.2.2.2.2.2 then ((stockadelaw02_is.f bt282.1 bt282.2.1 bt282.2.2.1 bt282.2.2.2.1 bt282.2.2.2.2.1 bt289.1 bt289.2.1 bt289.2.2.1 bt289.2.2.2.1 bt289.2.2.2.2.1).bind fun t296 => (if t296 = true then ((stockadelaw02_wakes.f k).bind fun t297 => (some t297)) else (some false))) else (some false)))) = some r := h
 clear h
 replace H := Option.bind_eq_some_iff.mp H; obtain ⟨⟨t282, t283, t284, t285, t286, t287⟩, A20, H⟩ := H; try dsimp only at H
 have A2 := Aside0.mk A20
 clear A20
 replace H := Option.bind_eq_some_iff.mp H; obtain ⟨⟨t289, t290, t291, t292, t293, t294⟩, A30, H⟩ := H; try dsimp only at H
 have A3 := Aside0.mk A30
 clear A30
 by_cases c4 : t287 = t294
 ·rw [if_pos c4] at H
  have c4b0 : (t287 == t294) = true := beq_iff_eq.mpr c4
  have c4b1 : (t287 != t294) = false := bne_eq_false_iff_eq.mpr c4
  clear c4
  replace H := Option.bind_eq_some_iff.mp H; obtain ⟨t296, A50, H⟩ := H; try dsimp only at H
  have A5 := Aside0.mk A50
  clear A50
  by_cases c6 : t296 = true
  ·subst c6
   replace H := sh_t H
   replace H := Option.bind_eq_some_iff.mp H; obtain ⟨t297, A70, H⟩ := H; try dsimp only at H
   have A7 := Aside0.mk A70
   clear A70
   obtain rfl := Option.some.inj H
   go_enter Tryd.func3, Tryd.ntmps3
   go_wp2_with (first | ((with_reducible refine gate_dst (N := 1) rfl ?_); refine sh_box 1 #[.int .u8 a0_0, .int .u8 a0_1, .int .u8 a0_2, .int .i16 a0_3, .int .i32 a0_4] 24 ?_; intro gb281 hg w8 hbox hb; have GE281 := sh_z (w := w) hg; replace HB := sh_b (w := w) hb; have BK281 := Aside0.mk (hbox); clear hb hbox hg; have hcz9 := blk_all5 BK281.out) | ((with_reducible refine gate_callee (f := 12) rfl ?_); refine sh_call (some 9) Tryd.func12 #[.agg #[.int .u8 a0_0, .int .u8 a0_1, .int .u8 a0_2, .int .i16 a0_3, .int .i32 a0_4]] ?_; (with_reducible refine (insn_Of.calls k a0_0 a0_1 a0_2 a0_3 a0_4 t282 t283 t284 t285 t286 t287 _ ?side1 A2.out).mono ?_); (case side1 => repeat (first | exact (Kd.C_below HRG0.out HB.out) | (with_reducible refine Kd.C_alloc ?_ _) | (with_reducible refine Kd.C_drewN ?_ _) | (with_reducible refine Kd.C_drew ?_))); rintro e w10 ⟨rfl, hb⟩; refine ⟨_, rfl, ?_⟩; replace BK281 := sh_k BK281 hb; replace HB := sh_b (w := w) hb; (try clear hb); (try clear hb2); (try clear hk); (try clear hi)) | ((with_reducible refine gate_dst (N := 3) rfl ?_); refine sh_box 3 #[.int .i64 0, .int .i64 0, .int .i64 0, .bool false, .bool false] 26 ?_; intro gb288 hg w11 hbox hb; have GE288 := sh_z (w := w) hg; have NB281_288 := sh_n BK281 hg; have NB288_281 := sh_s NB281_288; replace BK281 := sh_k BK281 hb; replace HB := sh_b (w := w) hb; have BK288 := Aside0.mk (hbox); clear hb hbox hg; have hnb12 := NB288_281.out; have hnc12 := NB281_288.out; have hcz13 := blk_all5 BK288.out; have hcz14 := blk_all5 BK281.out) | ((with_reducible refine gate_callee (f := 13) rfl ?_); refine sh_call (some 14) Tryd.func13 #[.agg #[.int .u8 a0_0, .int .u8 a0_1, .int .u8 a0_2, .int .i16 a0_3, .int .i32 a0_4]] ?_; (with_reducible refine (stockaderef02_Of.calls k a0_0 a0_1 a0_2 a0_3 a0_4 t289 t290 t291 t292 t293 t294 _ A3.out).mono ?_); rintro e w15 ⟨rfl, hb⟩; refine ⟨_, rfl, ?_⟩; replace BK281 := sh_kp (g := gb281) (t := 24) #[.int .u8 a0_0, .int .u8 a0_1, .int .u8 a0_2, .int .i16 a0_3, .int .i32 a0_4] hb; replace BK288 := sh_kp (g := gb288) (t := 26) #[.int .i64 t282, .int .i64 t283, .int .i64 t284, .bool t285, .bool t286] hb; replace HB := sh_b (w := w) hb; (try clear hb); (try clear hb2); (try clear hk); (try clear hi)) | ((with_reducible refine gate_dst (N := 5) rfl ?_); refine sh_box 5 #[.int .i64 0, .int .i64 0, .int .i64 0, .bool false, .bool false] 30 ?_; intro gb295 hg w16 hbox hb; have GE295 := sh_z (w := w) hg; have NB281_295 := sh_n BK281 hg; have NB288_295 := sh_n BK288 hg; have NB295_281 := sh_s NB281_295; have NB295_288 := sh_s NB288_295; replace BK281 := sh_k BK281 hb; replace BK288 := sh_k BK288 hb; replace HB := sh_b (w := w) hb; have BK295 := Aside0.mk (hbox); clear hb hbox hg; have hnb17 := NB295_281.out; have hnc17 := NB281_295.out; have hnb18 := NB295_288.out; have hnc18 := NB288_295.out; have hcz19 := blk_all5 BK295.out; have hcz20 := blk_all5 BK288.out) | (go_at_call 14; (with_reducible refine (stockadelaw02_is.calls t282 t283 t284 t285 t286 t289 t290 t291 t292 t293 true _ A5.out).mono ?_); rintro e w21 ⟨rfl, hb⟩; replace BK281 := sh_kp (g := gb281) (t := 24) #[.int .u8 a0_0, .int .u8 a0_1, .int .u8 a0_2, .int .i16 a0_3, .int .i32 a0_4] hb; replace BK288 := sh_kp (g := gb288) (t := 26) #[.int .i64 t282, .int .i64 t283, .int .i64 t284, .bool t285, .bool t286] hb; replace BK295 := sh_kp (g := gb295) (t := 30) #[.int .i64 t289, .int .i64 t290, .int .i64 t291, .bool t292, .bool t293] hb; replace HB := sh_b (w := w) hb; (try clear hb); (try clear hb2); (try clear hk); (try clear hi)) | (go_at_call 15; (with_reducible refine (stockadelaw02_wakes.calls k  t297 _ ?side1 (by first | rfl | exact HRT.out) A7.out).mono ?_); (case side1 => repeat (first | exact (Kd.C_below HRG0.out HB.out) | (with_reducible refine Kd.C_alloc ?_ _) | (with_reducible refine Kd.C_drewN ?_ _) | (with_reducible refine Kd.C_drew ?_))); rintro e w22 ⟨rfl, hb⟩; replace BK281 := sh_k BK281 hb; replace BK288 := sh_k BK288 hb; replace BK295 := sh_k BK295 hb; replace HB := sh_b (w := w) hb; (try clear hb); (try clear hb2); (try clear hk); (try clear hi)))
   go_ret
   exact ⟨ret_now, b_now⟩
  ·replace c6 := Bool.eq_false_iff.mpr c6
   subst c6
   replace H := sh_f H
   obtain rfl := Option.some.inj H
   exact absurd HRT.out (by simp)
 ·rw [if_neg c4] at H
  have c4b0 : (t287 == t294) = false := beq_eq_false_iff_ne.mpr c4
  have c4b1 : (t287 != t294) = true := bne_iff_ne.mpr c4
  obtain rfl := Option.some.inj H
  exact absurd HRT.out (by simp)

end Go.Proofs.YtkojjjdeacdabaaDoor.P
