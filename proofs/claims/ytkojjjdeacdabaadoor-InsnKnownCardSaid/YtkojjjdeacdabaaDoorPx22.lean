/- Made by this session's driver over the kit's printer: for each Go function a Lean function with the same answers, and a proof that the Go call comes to these answers; no conditions but the ones each theorem names. -/
import Derived.Test.YtkojjjdeacdabaaDoorPx0
import Derived.Test.YtkojjjdeacdabaaDoorPx1
import Derived.Test.YtkojjjdeacdabaaDoorPx6
import Derived.Test.YtkojjjdeacdabaaDoorPx10
import Derived.Test.YtkojjjdeacdabaaDoorPx14
import Derived.Test.YtkojjjdeacdabaaDoorPx18
import Derived.Test.YtkojjjdeacdabaaDoorPw
namespace Go.Proofs.YtkojjjdeacdabaaDoor.P
open Go.RowKit Go.Proofs.YtkojjjdeacdabaaDoorW.PrintWords Go.Proofs.YtkojjjdeacdabaaDoorW.PrintLast Go.Proofs.YtkojjjdeacdabaaDoorW.PrintMore
attribute [local go_sem] max2_int min2_int max_two min_two max_three min_three max_four min_four   -- for this text's walks alone
set_option linter.unusedVariables false
set_option linter.unusedSimpArgs false

attribute [local go_sem high] eqA24
/-! ### stockadelaw02_InsnKnown: function 11 -/
mutual
def stockadelaw02_InsnKnown.l0 : Nat → Int → Int → Option (Bool)
 | 0, _, _ => none
 | k + 1, x1, x2 => if x2 < 256 then (if x2 = 215 then ((insn_Of.f k ((x2) % 256) 0 0 0 64).bind fun bt643 => (if bt643.2.2.2.2.2 = 0 then (stockadelaw02_InsnKnown.l0 k (wrap64 (x1 + 1)) (wrap64 (x2 + 1))) else (stockadelaw02_InsnKnown.l0 k x1 (wrap64 (x2 + 1))))) else ((insn_Of.f k ((x2) % 256) 0 0 0 0).bind fun bt650 => (if bt650.2.2.2.2.2 = 0 then (stockadelaw02_InsnKnown.l0 k (wrap64 (x1 + 1)) (wrap64 (x2 + 1))) else (stockadelaw02_InsnKnown.l0 k x1 (wrap64 (x2 + 1)))))) else ((some (([(⟨(⟨220, 0, 0, 0, 16⟩ : S24), 20⟩ : S58), (⟨(⟨24, 0, 2, 0, 0⟩ : S24), 20⟩ : S58), (⟨(⟨215, 0, 0, 0, 8⟩ : S24), 20⟩ : S58), (⟨(⟨183, 10, 0, 0, 0⟩ : S24), 21⟩ : S58), (⟨(⟨121, 0, 11, 0, 0⟩ : S24), 21⟩ : S58), (⟨(⟨123, 10, 1, (-8), 0⟩ : S24), 0⟩ : S58), (⟨(⟨183, 0, 1, 0, 0⟩ : S24), 22⟩ : S58), (⟨(⟨149, 0, 0, 0, 1⟩ : S24), 22⟩ : S58), (⟨(⟨15, 0, 0, 1, 0⟩ : S24), 22⟩ : S58), (⟨(⟨135, 0, 0, 0, 1⟩ : S24), 22⟩ : S58), (⟨(⟨5, 11, 0, 0, 0⟩ : S24), 22⟩ : S58), (⟨(⟨183, 11, 1, 0, 0⟩ : S24), 21⟩ : S58)] : List (S58)) : List (S58))).bind fun y657 => (stockadelaw02_InsnKnown.l1 k x1 y657 (y657.length : Int) 0))
def stockadelaw02_InsnKnown.l1 : Nat → Int → List (S58) → Int → Int → Option (Bool)
 | 0, _, _, _, _ => none
 | k + 1, x1, x67, x68, x69 => if x69 < x68 then (if 0 ≤ x69 then (if x69 < (x67.length : Int) then ((insn_Of.f k ((rd_T58 x67 x69).f0.f0) ((rd_T58 x67 x69).f0.f1) ((rd_T58 x67 x69).f0.f2) ((rd_T58 x67 x69).f0.f3) ((rd_T58 x67 x69).f0.f4)).bind fun bt662 => (if bt662.2.2.2.2.2 = ((rd_T58 x67 x69).f1) then (stockadelaw02_InsnKnown.l1 k x1 x67 x68 (wrap64 (x69 + 1))) else (some false))) else (none)) else (none)) else ((insn_Make.f k 6 5 0 true false 0 3 0 7 0).bind fun bt669 => ((insn_Make.f k 1 8 0 false true 0 0 0 0 0).bind fun bt676 => ((insn_Make.f k 0 0 0 false false 0 0 0 0 0).bind fun bt683 => (if 7 ≤ 281474976710656 then ((insn_Decode.f (List.replicate 7 0)).bind fun bt693 => (if 9 ≤ 281474976710656 then ((insn_Decode.f (List.replicate 9 0)).bind fun bt703 => ((insn_Encode.f 0 16 0 0 0).bind fun bt710 => ((insn_Reads.f k 149 0 0 0 0).bind fun t714 => ((insn_Reads.f k 15 2 1 0 0).bind fun t717 => (if (t714.length : Int) = 1 then (if 0 < (t714.length : Int) then (if (rd t714 0) = 0 then (if (t717.length : Int) = 2 then (if 0 < (t717.length : Int) then (if (rd t717 0) = 1 then (if 1 < (t717.length : Int) then (if (rd t717 1) = 2 then ((insn_Writes.f k 133 0 0 0 0).bind fun t723 => (if t723 = 0 then ((insn_Places.f k 24 0 0 0 0).bind fun t724 => (if t724 = 2 then (if x1 = 111 then (if bt669.2.2.2.2.2 = 0 then (if (bt669.1 == 85 && (bt669.2.1 == 3 && (bt669.2.2.1 == 0 && (bt669.2.2.2.1 == 7 && (bt669.2.2.2.2.1 == 0))))) = true then (if bt676.2.2.2.2.2 = 1 then (if bt683.2.2.2.2.2 = 1 then (if bt693.2.2.2.2.2 = 4 then (if bt703.2.2.2.2.2 = 3 then (if bt710.2 = 21 then ((stockadelaw02_wakes.f k).bind fun t725 => (some t725)) else (some false)) else (some false)) else (some false)) else (some false)) else (some false)) else (some false)) else (some false)) else (some false)) else (some false))) else (some false))) else (some false)) else (none)) else (some false)) else (none)) else (some false)) else (some false)) else (none)) else (some false)))))) else (none))) else (none)))))
end
def stockadelaw02_InsnKnown.f (k : Nat)  : Option (Bool) := stockadelaw02_InsnKnown.l0 k 0 0
theorem sh_gen {P : Program} {c : Code} {Q : Exit → Act → World → Prop} {a : Act} {W : World} (F : World → Prop) (hF : F W) (h : ∀ wg, F wg → c.wp P Q a wg) : c.wp P Q a W := h _ hF
theorem stockadelaw02_InsnKnown.mono_l : ∀ k, (∀ y0 y1, LeO (stockadelaw02_InsnKnown.l0 k y0 y1) (stockadelaw02_InsnKnown.l0 (k + 1) y0 y1)) ∧ (∀ y0 y1 y2 y3, LeO (stockadelaw02_InsnKnown.l1 k y0 y1 y2 y3) (stockadelaw02_InsnKnown.l1 (k + 1) y0 y1 y2 y3))
 | 0 => ⟨fun _ _ r h => by simp [stockadelaw02_InsnKnown.l0] at h, fun _ _ _ _ r h => by simp [stockadelaw02_InsnKnown.l1] at h⟩
 | k + 1 => by
  obtain ⟨ih0, ih1⟩ := stockadelaw02_InsnKnown.mono_l k
  refine ⟨?_, ?_⟩
  ·intro y0 y1
   unfold stockadelaw02_InsnKnown.l0
   repeat' first
   | (with_reducible exact ih0 _ _)
   | (with_reducible exact ih1 _ _ _ _)
   | (with_reducible exact insn_Make.mono _ _ _ _ _ _ _ _ _ _ _)
   | (with_reducible exact insn_Of.mono _ _ _ _ _ _)
   | (with_reducible exact insn_Places.mono _ _ _ _ _ _)
   | (with_reducible exact insn_Reads.mono _ _ _ _ _ _)
   | (with_reducible exact insn_Writes.mono _ _ _ _ _ _)
   | (with_reducible exact stockadelaw02_wakes.mono _)
   | (with_reducible exact LeO.refl _)
   | (with_reducible exact LeO.none _)
   | (with_reducible refine LeO.ite ?_ ?_)
   | (with_reducible refine LeO.bind ?_ (fun _ => ?_))
   | exact ih0 _ _
   | exact ih1 _ _ _ _
   | exact insn_Make.mono _ _ _ _ _ _ _ _ _ _ _
   | exact insn_Of.mono _ _ _ _ _ _
   | exact insn_Places.mono _ _ _ _ _ _
   | exact insn_Reads.mono _ _ _ _ _ _
   | exact insn_Writes.mono _ _ _ _ _ _
   | exact stockadelaw02_wakes.mono _
   | exact LeO.none _
   | refine LeO.ite ?_ ?_
   | refine LeO.bind ?_ (fun _ => ?_)
  ·intro y0 y1 y2 y3
   unfold stockadelaw02_InsnKnown.l1
   repeat' first
   | (with_reducible exact ih0 _ _)
   | (with_reducible exact ih1 _ _ _ _)
   | (with_reducible exact insn_Make.mono _ _ _ _ _ _ _ _ _ _ _)
   | (with_reducible exact insn_Of.mono _ _ _ _ _ _)
   | (with_reducible exact insn_Places.mono _ _ _ _ _ _)
   | (with_reducible exact insn_Reads.mono _ _ _ _ _ _)
   | (with_reducible exact insn_Writes.mono _ _ _ _ _ _)
   | (with_reducible exact stockadelaw02_wakes.mono _)
   | (with_reducible exact LeO.refl _)
   | (with_reducible exact LeO.none _)
   | (with_reducible refine LeO.ite ?_ ?_)
   | (with_reducible refine LeO.bind ?_ (fun _ => ?_))
   | exact ih0 _ _
   | exact ih1 _ _ _ _
   | exact insn_Make.mono _ _ _ _ _ _ _ _ _ _ _
   | exact insn_Of.mono _ _ _ _ _ _
   | exact insn_Places.mono _ _ _ _ _ _
   | exact insn_Reads.mono _ _ _ _ _ _
   | exact insn_Writes.mono _ _ _ _ _ _
   | exact stockadelaw02_wakes.mono _
   | exact LeO.none _
   | refine LeO.ite ?_ ?_
   | refine LeO.bind ?_ (fun _ => ?_)
theorem stockadelaw02_InsnKnown.mono : ∀ k, LeO (stockadelaw02_InsnKnown.f k ) (stockadelaw02_InsnKnown.f (k + 1) ) := by
 intro  k
 obtain ⟨ih0, ih1⟩ := stockadelaw02_InsnKnown.mono_l k
 unfold stockadelaw02_InsnKnown.f
 repeat' first
   | (with_reducible exact ih0 _ _)
   | (with_reducible exact ih1 _ _ _ _)
   | (with_reducible exact insn_Make.mono _ _ _ _ _ _ _ _ _ _ _)
   | (with_reducible exact insn_Of.mono _ _ _ _ _ _)
   | (with_reducible exact insn_Places.mono _ _ _ _ _ _)
   | (with_reducible exact insn_Reads.mono _ _ _ _ _ _)
   | (with_reducible exact insn_Writes.mono _ _ _ _ _ _)
   | (with_reducible exact stockadelaw02_wakes.mono _)
   | (with_reducible exact LeO.refl _)
   | (with_reducible exact LeO.none _)
   | (with_reducible refine LeO.ite ?_ ?_)
   | (with_reducible refine LeO.bind ?_ (fun _ => ?_))
   | exact ih0 _ _
   | exact ih1 _ _ _ _
   | exact insn_Make.mono _ _ _ _ _ _ _ _ _ _ _
   | exact insn_Of.mono _ _ _ _ _ _
   | exact insn_Places.mono _ _ _ _ _ _
   | exact insn_Reads.mono _ _ _ _ _ _
   | exact insn_Writes.mono _ _ _ _ _ _
   | exact stockadelaw02_wakes.mono _
   | exact LeO.none _
   | refine LeO.ite ?_ ?_
   | refine LeO.bind ?_ (fun _ => ?_)
set_option maxHeartbeats 8000000 in
set_option maxRecDepth 100000 in
theorem stockadelaw02_InsnKnown.calls (k : Nat)  (r : Bool) (w : World) (hrG0 : Kd.C (Kd.int .i64) w (some ⟨0, 0, none⟩) gl0.length gl0) (hr_ : r = true) (h : stockadelaw02_InsnKnown.f k  = some r) :
  Calls Tryd.prog 11 #[] w fun e w' => e = .returned (.bool r) ∧ Below w.heap.size w w' := by
 have hu24 := Tryd.underlying24
 have hu26 := Tryd.underlying26
 have hu58 := Tryd.underlying58
 have HRG0 := Aside0.mk hrG0
 clear hrG0
 have HRT := Aside0.mk hr_
 clear hr_
 have HB := Aside0.mk (Below.refl w.heap.size w)
 have H : (stockadelaw02_InsnKnown.l0 k 0 0) = some r := h
 clear h
 have H' := Aside0.mk H
 clear H
 go_enter Tryd.func11, Tryd.ntmps11
 go_wp2
 go_loopg [1, 2] k (fun kq v1 v2 w' => ∃ (x1_1 : Int) (x2_1 : Int), v1 = .int .i64 x1_1 ∧ v2 = .int .i64 x2_1 ∧ Aside0 (stockadelaw02_InsnKnown.l0 kq x1_1 x2_1 = some r) ∧ Aside0 (kq ≤ k) ∧ Aside0 (Below w.heap.size w w'))
 case atStart => exact ⟨(0), (0), eq_now, eq_now, H', ⟨Nat.le_refl _⟩, ⟨b_now⟩⟩
 case round =>
  clear H'
  obtain ⟨x1_1, x2_1, rfl, rfl, HA, HK1, HB⟩ := hrel
  cases gk with
  | zero => exact absurd HA.out (by simp [stockadelaw02_InsnKnown.l0])
  | succ k1 =>
   have H := HA.out
   clear HA
   simp only [stockadelaw02_InsnKnown.l0] at H
   by_cases c1 : x2_1 < 256
   ·rw [if_pos c1] at H
    have c1b0 : decide (x2_1 < 256) = true := decide_eq_true c1
    clear c1
    by_cases c2 : x2_1 = 215
    ·rw [if_pos c2] at H
     have c2b0 : (x2_1 == 215) = true := beq_iff_eq.mpr c2
     have c2b1 : (x2_1 != 215) = false := bne_eq_false_iff_eq.mpr c2
     clear c2
     replace H := Option.bind_eq_some_iff.mp H; obtain ⟨⟨t643, t644, t645, t646, t647, t648⟩, A30, H⟩ := H; try dsimp only at H
     have A3 := Aside0.mk A30
     clear A30
     by_cases c4 : t648 = 0
     ·rw [if_pos c4] at H
      have c4b0 : (t648 == 0) = true := beq_iff_eq.mpr c4
      have c4b1 : (t648 != 0) = false := bne_eq_false_iff_eq.mpr c4
      clear c4
      have H' := Aside0.mk H
      clear H
      go_upto_region 8 with (((with_reducible refine gate_dst (N := 3) rfl ?_); (try (refine gate_guard (by rfl) ?_; dsimp only)); refine sh_box 3 #[.int .u8 0, .int .u8 0, .int .u8 0, .int .i16 0, .int .i32 0] 24 ?_; intro gb642 hg w5 hbox hb; have GE642 := sh_z (w := w) hg; replace HB := sh_b (w := w) hb; have BK642 := Aside0.mk (hbox); clear hb hbox hg; have hcz6 := blk_all5 BK642.out))
      refine sh_gen (fun wg => Aside0 (wg.heap[gb642]? = some (.cells #[.int .u8 ((x2_1) % 256), .int .u8 0, .int .u8 0, .int .i16 0, .int .i32 64] 24 (0, 0))) ∧ Aside0 (Below w.heap.size w wg)) ⟨⟨bk_now⟩, ⟨b_now⟩⟩ ?_
      clear BK642 HB
      rintro wg ⟨BK642, HB⟩
      have hczg := blk_all5 BK642.out
      go_wp2_with (first | ((with_reducible refine gate_callee (f := 12) rfl ?_); refine sh_call (some 36) Tryd.func12 #[.agg #[.int .u8 ((x2_1) % 256), .int .u8 0, .int .u8 0, .int .i16 0, .int .i32 64]] ?_; (with_reducible refine (insn_Of.calls k1 ((x2_1) % 256) 0 0 0 64 t643 t644 t645 t646 t647 t648 _ ?side1 A3.out).mono ?_); (case side1 => exact Kd.C_below HRG0.out b_now); rintro e w7 ⟨rfl, hb⟩; refine ⟨_, rfl, ?_⟩; replace BK642 := sh_kp (g := gb642) (t := 24) #[.int .u8 ((x2_1) % 256), .int .u8 0, .int .u8 0, .int .i16 0, .int .i32 64] hb; replace HB := sh_b (w := w) hb; (try clear hb); (try clear hb2); (try clear hk); (try clear hi)) | ((with_reducible refine gate_dst (N := 4) rfl ?_); (try (refine gate_guard (by rfl) ?_; dsimp only)); refine sh_box 4 #[.int .i64 0, .int .i64 0, .int .i64 0, .bool false, .bool false] 26 ?_; intro gb649 hg w8 hbox hb; have GE649 := sh_z (w := w) hg; have NB642_649 := sh_n BK642 hg; have NB649_642 := sh_s NB642_649; replace BK642 := sh_k BK642 hb; replace HB := sh_b (w := w) hb; have BK649 := Aside0.mk (hbox); clear hb hbox hg; have hnb9 := NB649_642.out; have hnc9 := NB642_649.out; have hcz10 := blk_all5 BK649.out))
      go_roundg k1
      case measure => have := HK1.out; omega
      case rel => exact ⟨(wrap64 (x1_1 + 1)), (wrap64 (x2_1 + 1)), eq_now, eq_now, H', ⟨by have := HK1.out; omega⟩, ⟨b_now⟩⟩
     ·rw [if_neg c4] at H
      have c4b0 : (t648 == 0) = false := beq_eq_false_iff_ne.mpr c4
      have c4b1 : (t648 != 0) = true := bne_iff_ne.mpr c4
      have H' := Aside0.mk H
      clear H
      go_upto_region 8 with (((with_reducible refine gate_dst (N := 3) rfl ?_); (try (refine gate_guard (by rfl) ?_; dsimp only)); refine sh_box 3 #[.int .u8 0, .int .u8 0, .int .u8 0, .int .i16 0, .int .i32 0] 24 ?_; intro gb642 hg w11 hbox hb; have GE642 := sh_z (w := w) hg; replace HB := sh_b (w := w) hb; have BK642 := Aside0.mk (hbox); clear hb hbox hg; have hcz12 := blk_all5 BK642.out))
      refine sh_gen (fun wg => Aside0 (wg.heap[gb642]? = some (.cells #[.int .u8 ((x2_1) % 256), .int .u8 0, .int .u8 0, .int .i16 0, .int .i32 64] 24 (0, 0))) ∧ Aside0 (Below w.heap.size w wg)) ⟨⟨bk_now⟩, ⟨b_now⟩⟩ ?_
      clear BK642 HB
      rintro wg ⟨BK642, HB⟩
      have hczg := blk_all5 BK642.out
      go_wp2_with (first | ((with_reducible refine gate_callee (f := 12) rfl ?_); refine sh_call (some 36) Tryd.func12 #[.agg #[.int .u8 ((x2_1) % 256), .int .u8 0, .int .u8 0, .int .i16 0, .int .i32 64]] ?_; (with_reducible refine (insn_Of.calls k1 ((x2_1) % 256) 0 0 0 64 t643 t644 t645 t646 t647 t648 _ ?side1 A3.out).mono ?_); (case side1 => exact Kd.C_below HRG0.out b_now); rintro e w13 ⟨rfl, hb⟩; refine ⟨_, rfl, ?_⟩; replace BK642 := sh_kp (g := gb642) (t := 24) #[.int .u8 ((x2_1) % 256), .int .u8 0, .int .u8 0, .int .i16 0, .int .i32 64] hb; replace HB := sh_b (w := w) hb; (try clear hb); (try clear hb2); (try clear hk); (try clear hi)) | ((with_reducible refine gate_dst (N := 4) rfl ?_); (try (refine gate_guard (by rfl) ?_; dsimp only)); refine sh_box 4 #[.int .i64 0, .int .i64 0, .int .i64 0, .bool false, .bool false] 26 ?_; intro gb649 hg w14 hbox hb; have GE649 := sh_z (w := w) hg; have NB642_649 := sh_n BK642 hg; have NB649_642 := sh_s NB642_649; replace BK642 := sh_k BK642 hb; replace HB := sh_b (w := w) hb; have BK649 := Aside0.mk (hbox); clear hb hbox hg; have hnb15 := NB649_642.out; have hnc15 := NB642_649.out; have hcz16 := blk_all5 BK649.out))
      go_roundg k1
      case measure => have := HK1.out; omega
      case rel => exact ⟨(x1_1), (wrap64 (x2_1 + 1)), eq_now, eq_now, H', ⟨by have := HK1.out; omega⟩, ⟨b_now⟩⟩
    ·rw [if_neg c2] at H
     have c2b0 : (x2_1 == 215) = false := beq_eq_false_iff_ne.mpr c2
     have c2b1 : (x2_1 != 215) = true := bne_iff_ne.mpr c2
     replace H := Option.bind_eq_some_iff.mp H; obtain ⟨⟨t650, t651, t652, t653, t654, t655⟩, A170, H⟩ := H; try dsimp only at H
     have A17 := Aside0.mk A170
     clear A170
     by_cases c18 : t655 = 0
     ·rw [if_pos c18] at H
      have c18b0 : (t655 == 0) = true := beq_iff_eq.mpr c18
      have c18b1 : (t655 != 0) = false := bne_eq_false_iff_eq.mpr c18
      clear c18
      have H' := Aside0.mk H
      clear H
      go_upto_region 8 with (((with_reducible refine gate_dst (N := 3) rfl ?_); (try (refine gate_guard (by rfl) ?_; dsimp only)); refine sh_box 3 #[.int .u8 0, .int .u8 0, .int .u8 0, .int .i16 0, .int .i32 0] 24 ?_; intro gb642 hg w19 hbox hb; have GE642 := sh_z (w := w) hg; replace HB := sh_b (w := w) hb; have BK642 := Aside0.mk (hbox); clear hb hbox hg; have hcz20 := blk_all5 BK642.out))
      refine sh_gen (fun wg => Aside0 (wg.heap[gb642]? = some (.cells #[.int .u8 ((x2_1) % 256), .int .u8 0, .int .u8 0, .int .i16 0, .int .i32 0] 24 (0, 0))) ∧ Aside0 (Below w.heap.size w wg)) ⟨⟨bk_now⟩, ⟨b_now⟩⟩ ?_
      clear BK642 HB
      rintro wg ⟨BK642, HB⟩
      have hczg := blk_all5 BK642.out
      go_wp2_with (first | ((with_reducible refine gate_callee (f := 12) rfl ?_); refine sh_call (some 36) Tryd.func12 #[.agg #[.int .u8 ((x2_1) % 256), .int .u8 0, .int .u8 0, .int .i16 0, .int .i32 0]] ?_; (with_reducible refine (insn_Of.calls k1 ((x2_1) % 256) 0 0 0 0 t650 t651 t652 t653 t654 t655 _ ?side1 A17.out).mono ?_); (case side1 => exact Kd.C_below HRG0.out b_now); rintro e w21 ⟨rfl, hb⟩; refine ⟨_, rfl, ?_⟩; replace BK642 := sh_kp (g := gb642) (t := 24) #[.int .u8 ((x2_1) % 256), .int .u8 0, .int .u8 0, .int .i16 0, .int .i32 0] hb; replace HB := sh_b (w := w) hb; (try clear hb); (try clear hb2); (try clear hk); (try clear hi)) | ((with_reducible refine gate_dst (N := 4) rfl ?_); (try (refine gate_guard (by rfl) ?_; dsimp only)); refine sh_box 4 #[.int .i64 0, .int .i64 0, .int .i64 0, .bool false, .bool false] 26 ?_; intro gb656 hg w22 hbox hb; have GE656 := sh_z (w := w) hg; have NB642_656 := sh_n BK642 hg; have NB656_642 := sh_s NB642_656; replace BK642 := sh_k BK642 hb; replace HB := sh_b (w := w) hb; have BK656 := Aside0.mk (hbox); clear hb hbox hg; have hnb23 := NB656_642.out; have hnc23 := NB642_656.out; have hcz24 := blk_all5 BK656.out))
      go_roundg k1
      case measure => have := HK1.out; omega
      case rel => exact ⟨(wrap64 (x1_1 + 1)), (wrap64 (x2_1 + 1)), eq_now, eq_now, H', ⟨by have := HK1.out; omega⟩, ⟨b_now⟩⟩
     ·rw [if_neg c18] at H
      have c18b0 : (t655 == 0) = false := beq_eq_false_iff_ne.mpr c18
      have c18b1 : (t655 != 0) = true := bne_iff_ne.mpr c18
      have H' := Aside0.mk H
      clear H
      go_upto_region 8 with (((with_reducible refine gate_dst (N := 3) rfl ?_); (try (refine gate_guard (by rfl) ?_; dsimp only)); refine sh_box 3 #[.int .u8 0, .int .u8 0, .int .u8 0, .int .i16 0, .int .i32 0] 24 ?_; intro gb642 hg w25 hbox hb; have GE642 := sh_z (w := w) hg; replace HB := sh_b (w := w) hb; have BK642 := Aside0.mk (hbox); clear hb hbox hg; have hcz26 := blk_all5 BK642.out))
      refine sh_gen (fun wg => Aside0 (wg.heap[gb642]? = some (.cells #[.int .u8 ((x2_1) % 256), .int .u8 0, .int .u8 0, .int .i16 0, .int .i32 0] 24 (0, 0))) ∧ Aside0 (Below w.heap.size w wg)) ⟨⟨bk_now⟩, ⟨b_now⟩⟩ ?_
      clear BK642 HB
      rintro wg ⟨BK642, HB⟩
      have hczg := blk_all5 BK642.out
      go_wp2_with (first | ((with_reducible refine gate_callee (f := 12) rfl ?_); refine sh_call (some 36) Tryd.func12 #[.agg #[.int .u8 ((x2_1) % 256), .int .u8 0, .int .u8 0, .int .i16 0, .int .i32 0]] ?_; (with_reducible refine (insn_Of.calls k1 ((x2_1) % 256) 0 0 0 0 t650 t651 t652 t653 t654 t655 _ ?side1 A17.out).mono ?_); (case side1 => exact Kd.C_below HRG0.out b_now); rintro e w27 ⟨rfl, hb⟩; refine ⟨_, rfl, ?_⟩; replace BK642 := sh_kp (g := gb642) (t := 24) #[.int .u8 ((x2_1) % 256), .int .u8 0, .int .u8 0, .int .i16 0, .int .i32 0] hb; replace HB := sh_b (w := w) hb; (try clear hb); (try clear hb2); (try clear hk); (try clear hi)) | ((with_reducible refine gate_dst (N := 4) rfl ?_); (try (refine gate_guard (by rfl) ?_; dsimp only)); refine sh_box 4 #[.int .i64 0, .int .i64 0, .int .i64 0, .bool false, .bool false] 26 ?_; intro gb656 hg w28 hbox hb; have GE656 := sh_z (w := w) hg; have NB642_656 := sh_n BK642 hg; have NB656_642 := sh_s NB642_656; replace BK642 := sh_k BK642 hb; replace HB := sh_b (w := w) hb; have BK656 := Aside0.mk (hbox); clear hb hbox hg; have hnb29 := NB656_642.out; have hnc29 := NB642_656.out; have hcz30 := blk_all5 BK656.out))
      go_roundg k1
      case measure => have := HK1.out; omega
      case rel => exact ⟨(x1_1), (wrap64 (x2_1 + 1)), eq_now, eq_now, H', ⟨by have := HK1.out; omega⟩, ⟨b_now⟩⟩
   ·rw [if_neg c1] at H
    have c1b0 : decide (x2_1 < 256) = false := decide_eq_false c1
    clear c1
    obtain ⟨y657, hy657⟩ : ∃ y_ : List (S58), y_ = (([(⟨(⟨220, 0, 0, 0, 16⟩ : S24), 20⟩ : S58), (⟨(⟨24, 0, 2, 0, 0⟩ : S24), 20⟩ : S58), (⟨(⟨215, 0, 0, 0, 8⟩ : S24), 20⟩ : S58), (⟨(⟨183, 10, 0, 0, 0⟩ : S24), 21⟩ : S58), (⟨(⟨121, 0, 11, 0, 0⟩ : S24), 21⟩ : S58), (⟨(⟨123, 10, 1, (-8), 0⟩ : S24), 0⟩ : S58), (⟨(⟨183, 0, 1, 0, 0⟩ : S24), 22⟩ : S58), (⟨(⟨149, 0, 0, 0, 1⟩ : S24), 22⟩ : S58), (⟨(⟨15, 0, 0, 1, 0⟩ : S24), 22⟩ : S58), (⟨(⟨135, 0, 0, 0, 1⟩ : S24), 22⟩ : S58), (⟨(⟨5, 11, 0, 0, 0⟩ : S24), 22⟩ : S58), (⟨(⟨183, 11, 1, 0, 0⟩ : S24), 21⟩ : S58)] : List (S58))) := ⟨_, rfl⟩
    replace H : (stockadelaw02_InsnKnown.l1 k1 x1_1 y657 (y657.length : Int) 0) = some r := by first | (rw [hy657]; with_reducible exact H) | (have H2_ := (Option.bind_some _ _).symm.trans H; rw [hy657]; with_reducible exact H2_) | (have H2_ := (Option.bind_some _ _).symm.trans H; with_reducible exact H2_) | with_reducible exact H | (rw [hy657]; exact H) | exact H
    have Ny657 := Aside0.mk hy657
    clear hy657
    have H' := Aside0.mk H
    clear H
    go_wp2_with (first | ((with_reducible refine gate_dst (N := 67) rfl ?_); (try (refine gate_guard (by rfl) ?_; dsimp only)); refine Kd.R_lit k58 _ 58 ?hg (N := 67) ?hd (xs := ([(⟨(⟨220, 0, 0, 0, 16⟩ : S24), 20⟩ : S58), (⟨(⟨24, 0, 2, 0, 0⟩ : S24), 20⟩ : S58), (⟨(⟨215, 0, 0, 0, 8⟩ : S24), 20⟩ : S58), (⟨(⟨183, 10, 0, 0, 0⟩ : S24), 21⟩ : S58), (⟨(⟨121, 0, 11, 0, 0⟩ : S24), 21⟩ : S58), (⟨(⟨123, 10, 1, (-8), 0⟩ : S24), 0⟩ : S58), (⟨(⟨183, 0, 1, 0, 0⟩ : S24), 22⟩ : S58), (⟨(⟨149, 0, 0, 0, 1⟩ : S24), 22⟩ : S58), (⟨(⟨15, 0, 0, 1, 0⟩ : S24), 22⟩ : S58), (⟨(⟨135, 0, 0, 0, 1⟩ : S24), 22⟩ : S58), (⟨(⟨5, 11, 0, 0, 0⟩ : S24), 22⟩ : S58), (⟨(⟨183, 11, 1, 0, 0⟩ : S24), 21⟩ : S58)] : List (S58))) (inner := [.int .u8 220, .int .u8 0, .int .u8 0, .int .i16 0, .int .i32 16, .int .i64 20, .int .u8 24, .int .u8 0, .int .u8 2, .int .i16 0, .int .i32 0, .int .i64 20, .int .u8 215, .int .u8 0, .int .u8 0, .int .i16 0, .int .i32 8, .int .i64 20, .int .u8 183, .int .u8 10, .int .u8 0, .int .i16 0, .int .i32 0, .int .i64 21, .int .u8 121, .int .u8 0, .int .u8 11, .int .i16 0, .int .i32 0, .int .i64 21, .int .u8 123, .int .u8 10, .int .u8 1, .int .i16 (-8), .int .i32 0, .int .i64 0, .int .u8 183, .int .u8 0, .int .u8 1, .int .i16 0, .int .i32 0, .int .i64 22, .int .u8 149, .int .u8 0, .int .u8 0, .int .i16 0, .int .i32 1, .int .i64 22, .int .u8 15, .int .u8 0, .int .u8 0, .int .i16 1, .int .i32 0, .int .i64 22, .int .u8 135, .int .u8 0, .int .u8 0, .int .i16 0, .int .i32 1, .int .i64 22, .int .u8 5, .int .u8 11, .int .u8 0, .int .i16 0, .int .i32 0, .int .i64 22, .int .u8 183, .int .u8 11, .int .u8 1, .int .i16 0, .int .i32 0, .int .i64 21]) (ok := fun _ => True) (okp := fun _ => True) ?hr ?hp (fun _ hk => hk) trivial (Below.refl _ _) (Nat.le_refl _) (by simp) ?_; (case hd => rfl); (case hg => rfl); (case hr => first | (go_simp; done) | (go_simp; rfl)); (case hp => exact (Reps.c6 (show Kd.M k58 _ _ _ (⟨(⟨220, 0, 0, 0, 16⟩ : S24), 20⟩ : S58) [.int .u8 220, .int .u8 0, .int .u8 0, .int .i16 0, .int .i32 16, .int .i64 20] from (k58_mkM _ _ _ (⟨(⟨220, 0, 0, 0, 16⟩ : S24), 20⟩ : S58) )) (Reps.c6 (show Kd.M k58 _ _ _ (⟨(⟨24, 0, 2, 0, 0⟩ : S24), 20⟩ : S58) [.int .u8 24, .int .u8 0, .int .u8 2, .int .i16 0, .int .i32 0, .int .i64 20] from (k58_mkM _ _ _ (⟨(⟨24, 0, 2, 0, 0⟩ : S24), 20⟩ : S58) )) (Reps.c6 (show Kd.M k58 _ _ _ (⟨(⟨215, 0, 0, 0, 8⟩ : S24), 20⟩ : S58) [.int .u8 215, .int .u8 0, .int .u8 0, .int .i16 0, .int .i32 8, .int .i64 20] from (k58_mkM _ _ _ (⟨(⟨215, 0, 0, 0, 8⟩ : S24), 20⟩ : S58) )) (Reps.c6 (show Kd.M k58 _ _ _ (⟨(⟨183, 10, 0, 0, 0⟩ : S24), 21⟩ : S58) [.int .u8 183, .int .u8 10, .int .u8 0, .int .i16 0, .int .i32 0, .int .i64 21] from (k58_mkM _ _ _ (⟨(⟨183, 10, 0, 0, 0⟩ : S24), 21⟩ : S58) )) (Reps.c6 (show Kd.M k58 _ _ _ (⟨(⟨121, 0, 11, 0, 0⟩ : S24), 21⟩ : S58) [.int .u8 121, .int .u8 0, .int .u8 11, .int .i16 0, .int .i32 0, .int .i64 21] from (k58_mkM _ _ _ (⟨(⟨121, 0, 11, 0, 0⟩ : S24), 21⟩ : S58) )) (Reps.c6 (show Kd.M k58 _ _ _ (⟨(⟨123, 10, 1, (-8), 0⟩ : S24), 0⟩ : S58) [.int .u8 123, .int .u8 10, .int .u8 1, .int .i16 (-8), .int .i32 0, .int .i64 0] from (k58_mkM _ _ _ (⟨(⟨123, 10, 1, (-8), 0⟩ : S24), 0⟩ : S58) )) (Reps.c6 (show Kd.M k58 _ _ _ (⟨(⟨183, 0, 1, 0, 0⟩ : S24), 22⟩ : S58) [.int .u8 183, .int .u8 0, .int .u8 1, .int .i16 0, .int .i32 0, .int .i64 22] from (k58_mkM _ _ _ (⟨(⟨183, 0, 1, 0, 0⟩ : S24), 22⟩ : S58) )) (Reps.c6 (show Kd.M k58 _ _ _ (⟨(⟨149, 0, 0, 0, 1⟩ : S24), 22⟩ : S58) [.int .u8 149, .int .u8 0, .int .u8 0, .int .i16 0, .int .i32 1, .int .i64 22] from (k58_mkM _ _ _ (⟨(⟨149, 0, 0, 0, 1⟩ : S24), 22⟩ : S58) )) (Reps.c6 (show Kd.M k58 _ _ _ (⟨(⟨15, 0, 0, 1, 0⟩ : S24), 22⟩ : S58) [.int .u8 15, .int .u8 0, .int .u8 0, .int .i16 1, .int .i32 0, .int .i64 22] from (k58_mkM _ _ _ (⟨(⟨15, 0, 0, 1, 0⟩ : S24), 22⟩ : S58) )) (Reps.c6 (show Kd.M k58 _ _ _ (⟨(⟨135, 0, 0, 0, 1⟩ : S24), 22⟩ : S58) [.int .u8 135, .int .u8 0, .int .u8 0, .int .i16 0, .int .i32 1, .int .i64 22] from (k58_mkM _ _ _ (⟨(⟨135, 0, 0, 0, 1⟩ : S24), 22⟩ : S58) )) (Reps.c6 (show Kd.M k58 _ _ _ (⟨(⟨5, 11, 0, 0, 0⟩ : S24), 22⟩ : S58) [.int .u8 5, .int .u8 11, .int .u8 0, .int .i16 0, .int .i32 0, .int .i64 22] from (k58_mkM _ _ _ (⟨(⟨5, 11, 0, 0, 0⟩ : S24), 22⟩ : S58) )) (Reps.c6 (show Kd.M k58 _ _ _ (⟨(⟨183, 11, 1, 0, 0⟩ : S24), 21⟩ : S58) [.int .u8 183, .int .u8 11, .int .u8 1, .int .i16 0, .int .i32 0, .int .i64 21] from (k58_mkM _ _ _ (⟨(⟨183, 11, 1, 0, 0⟩ : S24), 21⟩ : S58) )) (Reps.none _ _)))))))))))))); intro v658 w31 ho32 hb hg_ hnew_; clear hg_ hnew_; (first | rw [← Ny657.out] at ho32 | (simp only [Int.reduceToNat] at ho32; rw [← Ny657.out] at ho32)); have HO659 := Aside0.mk (Kd.R_lower ho32 (below_size b_now)); replace HB := sh_b (w := w) hb; clear hb ho32; obtain ⟨Ao33, co33, eo33⟩ := Kd.R_slice HO659.out; subst eo33))
    go_loopg [69] k1 (fun kq v69 w' => ∃ (x69_2 : Int), v69 = .int .i64 x69_2 ∧ Aside0 (stockadelaw02_InsnKnown.l1 kq x1_1 y657 (y657.length : Int) x69_2 = some r) ∧ Aside0 (kq ≤ k1) ∧ Aside0 (Kd.R k58 58 w' w.heap.size (fun _ => True) (.slice Ao33 y657.length co33) y657) ∧ Aside0 (Below w.heap.size w w'))
    case atStart => exact ⟨(0), eq_now, H', ⟨Nat.le_refl _⟩, ⟨by (with_reducible repeat (first | apply Kd.R_alloc | apply Kd.R_drewN | apply Kd.R_drew)); exact HO659.out⟩, ⟨b_now⟩⟩
    case round =>
     clear H'
     try clear c1
     try clear c1b0
     try clear c2
     try clear c2b0
     try clear c2b1
     try clear p2
     try clear c4
     try clear c4b0
     try clear c4b1
     try clear c6
     try clear p6
     try clear c9
     try clear c11
     try clear c12
     try clear c15
     try clear c18
     try clear c18b0
     try clear c18b1
     try clear c23
     try clear c29
     try clear hcz10
     try clear hcz12
     try clear hcz16
     try clear hcz20
     try clear hcz24
     try clear hcz26
     try clear hcz30
     try clear hcz6
     obtain ⟨x69_2, rfl, HA, HK2, HO_67, HB⟩ := hrel
     cases gk with
     | zero => exact absurd HA.out (by simp [stockadelaw02_InsnKnown.l1])
     | succ k2 =>
      have H := HA.out
      clear HA
      simp only [stockadelaw02_InsnKnown.l1] at H
      by_cases c34 : x69_2 < (y657.length : Int)
      ·rw [if_pos c34] at H
       have c34b0 : decide (x69_2 < (y657.length : Int)) = true := decide_eq_true c34
       clear c34
       by_cases c35 : 0 ≤ x69_2
       ·rw [if_pos c35] at H
        have c35b0 : decide (0 ≤ x69_2) = true := decide_eq_true c35
        clear c35
        by_cases c36 : x69_2 < (y657.length : Int)
        ·rw [if_pos c36] at H
         have c36b0 : decide (x69_2 < (y657.length : Int)) = true := decide_eq_true c36
         clear c36
         replace H := Option.bind_eq_some_iff.mp H; obtain ⟨⟨t662, t663, t664, t665, t666, t667⟩, A370, H⟩ := H; try dsimp only at H
         have A37 := Aside0.mk A370
         clear A370
         by_cases c38 : t667 = ((rd_T58 y657 x69_2).f1)
         ·rw [if_pos c38] at H
          have c38b0 : (t667 == ((rd_T58 y657 x69_2).f1)) = true := beq_iff_eq.mpr c38
          have c38b1 : (t667 != ((rd_T58 y657 x69_2).f1)) = false := bne_eq_false_iff_eq.mpr c38
          clear c38
          have H' := Aside0.mk H
          clear H
          have p660 : 0 ≤ (x69_2 : Int) := of_decide_eq_true (by first | (with_reducible assumption) | assumption)
          have q660 : x69_2 < (y657.length : Int) := of_decide_eq_true (by first | (with_reducible assumption) | assumption)
          obtain ⟨ad660, e660, hx660_0, hx660_1, hx660_2, hx660_3, hx660_4, hx660_5⟩ := at_T58 (Kd.R_reads' HO_67.out).2.2 x69_2 p660 q660
          cases e660
          replace p660 := eq_true p660
          replace q660 := eq_true q660
          go_wp2_with (first | ((with_reducible refine gate_dst (N := 7) rfl ?_); (try (refine gate_guard (by rfl) ?_; dsimp only)); refine sh_box 7 #[.int .u8 0, .int .u8 0, .int .u8 0, .int .i16 0, .int .i32 0, .int .i64 0] 58 ?_; intro gb661 hg w39 hbox hb; have GE661 := sh_z (w := w) hg; replace HO_67 := Aside0.mk (Kd.R_below (Kd.R_elderB (by (with_reducible repeat (first | apply Kd.R_alloc | apply Kd.R_drewN | apply Kd.R_drew)); exact HO_67.out) gb661 (Nat.le_of_eq hg.symm)) hb); replace HB := sh_b (w := w) hb; have BK661 := Aside0.mk (hbox); clear hb hbox hg; have hcz40 := blk_all6 BK661.out) | ((with_reducible refine gate_callee (f := 12) rfl ?_); refine sh_call (some 76) Tryd.func12 #[.agg #[.int .u8 ((rd_T58 y657 x69_2).f0.f0), .int .u8 ((rd_T58 y657 x69_2).f0.f1), .int .u8 ((rd_T58 y657 x69_2).f0.f2), .int .i16 ((rd_T58 y657 x69_2).f0.f3), .int .i32 ((rd_T58 y657 x69_2).f0.f4)]] ?_; (with_reducible refine (insn_Of.calls k2 ((rd_T58 y657 x69_2).f0.f0) ((rd_T58 y657 x69_2).f0.f1) ((rd_T58 y657 x69_2).f0.f2) ((rd_T58 y657 x69_2).f0.f3) ((rd_T58 y657 x69_2).f0.f4) t662 t663 t664 t665 t666 t667 _ ?side1 A37.out).mono ?_); (case side1 => exact Kd.C_below HRG0.out b_now); rintro e w41 ⟨rfl, hb⟩; refine ⟨_, rfl, ?_⟩; replace HO_67 := Aside0.mk (Kd.R_below (by (with_reducible repeat (first | apply Kd.R_alloc | apply Kd.R_drewN | apply Kd.R_drew)); exact (Kd.R_mono (Kd.R_far (p := ⟨gb661, 5, none⟩) (Kd.R_far (p := ⟨gb661, 4, none⟩) (Kd.R_far (p := ⟨gb661, 3, none⟩) (Kd.R_far (p := ⟨gb661, 2, none⟩) (Kd.R_far (p := ⟨gb661, 1, none⟩) (Kd.R_far (p := ⟨gb661, 0, none⟩) (Kd.R_mono HO_67.out (fun k_ hk => (⟨hk, hk.2⟩ : _ ∧ k_ ≠ gb661))) (fun _ hk => hk.2) (.int .u8 ((rd_T58 y657 x69_2).f0.f0))) (fun _ hk => hk.2) (.int .u8 ((rd_T58 y657 x69_2).f0.f1))) (fun _ hk => hk.2) (.int .u8 ((rd_T58 y657 x69_2).f0.f2))) (fun _ hk => hk.2) (.int .i16 ((rd_T58 y657 x69_2).f0.f3))) (fun _ hk => hk.2) (.int .i32 ((rd_T58 y657 x69_2).f0.f4))) (fun _ hk => hk.2) (.int .i64 ((rd_T58 y657 x69_2).f1))) (fun _ h_ => h_.1))) hb); replace BK661 := sh_kp (g := gb661) (t := 58) #[.int .u8 ((rd_T58 y657 x69_2).f0.f0), .int .u8 ((rd_T58 y657 x69_2).f0.f1), .int .u8 ((rd_T58 y657 x69_2).f0.f2), .int .i16 ((rd_T58 y657 x69_2).f0.f3), .int .i32 ((rd_T58 y657 x69_2).f0.f4), .int .i64 ((rd_T58 y657 x69_2).f1)] hb; replace HB := sh_b (w := w) hb; (try clear hb); (try clear hb2); (try clear hk); (try clear hi)) | ((with_reducible refine gate_dst (N := 8) rfl ?_); (try (refine gate_guard (by rfl) ?_; dsimp only)); refine sh_box 8 #[.int .i64 0, .int .i64 0, .int .i64 0, .bool false, .bool false] 26 ?_; intro gb668 hg w42 hbox hb; have GE668 := sh_z (w := w) hg; have NB661_668 := sh_n BK661 hg; have NB668_661 := sh_s NB661_668; replace HO_67 := Aside0.mk (Kd.R_below (by (with_reducible repeat (first | apply Kd.R_alloc | apply Kd.R_drewN | apply Kd.R_drew)); exact HO_67.out) hb); replace BK661 := sh_k BK661 hb; replace HB := sh_b (w := w) hb; have BK668 := Aside0.mk (hbox); clear hb hbox hg; have hnb43 := NB668_661.out; have hnc43 := NB661_668.out; have hcz44 := blk_all5 BK668.out; have hcz45 := blk_all6 BK661.out))
          go_roundg k2
          case measure => have := HK1.out; have := HK2.out; omega
          case rel => exact ⟨(wrap64 (x69_2 + 1)), eq_now, H', ⟨by have := HK1.out; have := HK2.out; omega⟩, ⟨by (with_reducible repeat (first | apply Kd.R_alloc | apply Kd.R_drewN | apply Kd.R_drew)); exact Kd.R_mono (Kd.R_far (p := ⟨gb668, 4, none⟩) (Kd.R_far (p := ⟨gb668, 3, none⟩) (Kd.R_far (p := ⟨gb668, 2, none⟩) (Kd.R_far (p := ⟨gb668, 1, none⟩) (Kd.R_far (p := ⟨gb668, 0, none⟩) (Kd.R_types HO_67.out BK668.out (by decide)) (fun _ hk => hk.2) (.int .i64 t662)) (fun _ hk => hk.2) (.int .i64 t663)) (fun _ hk => hk.2) (.int .i64 t664)) (fun _ hk => hk.2) (.bool t665)) (fun _ hk => hk.2) (.bool t666)) (fun _ hk => trivial)⟩, ⟨b_now⟩⟩
         ·rw [if_neg c38] at H
          have c38b0 : (t667 == ((rd_T58 y657 x69_2).f1)) = false := beq_eq_false_iff_ne.mpr c38
          have c38b1 : (t667 != ((rd_T58 y657 x69_2).f1)) = true := bne_iff_ne.mpr c38
          obtain rfl := Option.some.inj H
          exact absurd HRT.out (by simp)
        ·rw [if_neg c36] at H
         exact absurd H (by simp)
       ·rw [if_neg c35] at H
        exact absurd H (by simp)
      ·rw [if_neg c34] at H
       have c34b0 : decide (x69_2 < (y657.length : Int)) = false := decide_eq_false c34
       clear c34
       replace H := Option.bind_eq_some_iff.mp H; obtain ⟨⟨t669, t670, t671, t672, t673, t674⟩, A460, H⟩ := H; try dsimp only at H
       have A46 := Aside0.mk A460
       clear A460
       replace H := Option.bind_eq_some_iff.mp H; obtain ⟨⟨t676, t677, t678, t679, t680, t681⟩, A470, H⟩ := H; try dsimp only at H
       have A47 := Aside0.mk A470
       clear A470
       replace H := Option.bind_eq_some_iff.mp H; obtain ⟨⟨t683, t684, t685, t686, t687, t688⟩, A480, H⟩ := H; try dsimp only at H
       have A48 := Aside0.mk A480
       clear A480
       by_cases c49 : 7 ≤ 281474976710656
       ·rw [if_pos c49] at H
        have c49b0 := eq_true c49
        have c49b1 : decide (7 ≤ 281474976710656) = true := decide_eq_true c49
        clear c49
        obtain ⟨y690, hy690⟩ : ∃ y_ : List Int, y_ = (List.replicate 7 0) := ⟨_, rfl⟩
        replace H : ((insn_Decode.f y690).bind fun bt693 => (if 9 ≤ 281474976710656 then ((insn_Decode.f (List.replicate 9 0)).bind fun bt703 => ((insn_Encode.f 0 16 0 0 0).bind fun bt710 => ((insn_Reads.f k2 149 0 0 0 0).bind fun t714 => ((insn_Reads.f k2 15 2 1 0 0).bind fun t717 => (if (t714.length : Int) = 1 then (if 0 < (t714.length : Int) then (if (rd t714 0) = 0 then (if (t717.length : Int) = 2 then (if 0 < (t717.length : Int) then (if (rd t717 0) = 1 then (if 1 < (t717.length : Int) then (if (rd t717 1) = 2 then ((insn_Writes.f k2 133 0 0 0 0).bind fun t723 => (if t723 = 0 then ((insn_Places.f k2 24 0 0 0 0).bind fun t724 => (if t724 = 2 then (if x1_1 = 111 then (if t674 = 0 then (if (t669 == 85 && (t670 == 3 && (t671 == 0 && (t672 == 7 && (t673 == 0))))) = true then (if t681 = 1 then (if t688 = 1 then (if bt693.2.2.2.2.2 = 4 then (if bt703.2.2.2.2.2 = 3 then (if bt710.2 = 21 then ((stockadelaw02_wakes.f k2).bind fun t725 => (some t725)) else (some false)) else (some false)) else (some false)) else (some false)) else (some false)) else (some false)) else (some false)) else (some false)) else (some false))) else (some false))) else (some false)) else (none)) else (some false)) else (none)) else (some false)) else (some false)) else (none)) else (some false)))))) else (none))) = some r := by first | (rw [hy690]; with_reducible exact H) | (have H2_ := (Option.bind_some _ _).symm.trans H; rw [hy690]; with_reducible exact H2_) | (have H2_ := (Option.bind_some _ _).symm.trans H; with_reducible exact H2_) | with_reducible exact H | (rw [hy690]; exact H) | exact H
        have Ny690 := Aside0.mk hy690
        clear hy690
        replace H := Option.bind_eq_some_iff.mp H; obtain ⟨⟨t693, t694, t695, t696, t697, t698⟩, A500, H⟩ := H; try dsimp only at H
        have A50 := Aside0.mk A500
        clear A500
        by_cases c51 : 9 ≤ 281474976710656
        ·rw [if_pos c51] at H
         have c51b0 := eq_true c51
         have c51b1 : decide (9 ≤ 281474976710656) = true := decide_eq_true c51
         clear c51
         obtain ⟨y700, hy700⟩ : ∃ y_ : List Int, y_ = (List.replicate 9 0) := ⟨_, rfl⟩
         replace H : ((insn_Decode.f y700).bind fun bt703 => ((insn_Encode.f 0 16 0 0 0).bind fun bt710 => ((insn_Reads.f k2 149 0 0 0 0).bind fun t714 => ((insn_Reads.f k2 15 2 1 0 0).bind fun t717 => (if (t714.length : Int) = 1 then (if 0 < (t714.length : Int) then (if (rd t714 0) = 0 then (if (t717.length : Int) = 2 then (if 0 < (t717.length : Int) then (if (rd t717 0) = 1 then (if 1 < (t717.length : Int) then (if (rd t717 1) = 2 then ((insn_Writes.f k2 133 0 0 0 0).bind fun t723 => (if t723 = 0 then ((insn_Places.f k2 24 0 0 0 0).bind fun t724 => (if t724 = 2 then (if x1_1 = 111 then (if t674 = 0 then (if (t669 == 85 && (t670 == 3 && (t671 == 0 && (t672 == 7 && (t673 == 0))))) = true then (if t681 = 1 then (if t688 = 1 then (if t698 = 4 then (if bt703.2.2.2.2.2 = 3 then (if bt710.2 = 21 then ((stockadelaw02_wakes.f k2).bind fun t725 => (some t725)) else (some false)) else (some false)) else (some false)) else (some false)) else (some false)) else (some false)) else (some false)) else (some false)) else (some false))) else (some false))) else (some false)) else (none)) else (some false)) else (none)) else (some false)) else (some false)) else (none)) else (some false)))))) = some r := by first | (rw [hy700]; with_reducible exact H) | (have H2_ := (Option.bind_some _ _).symm.trans H; rw [hy700]; with_reducible exact H2_) | (have H2_ := (Option.bind_some _ _).symm.trans H; with_reducible exact H2_) | with_reducible exact H | (rw [hy700]; exact H) | exact H
         have Ny700 := Aside0.mk hy700
         clear hy700
         replace H := Option.bind_eq_some_iff.mp H; obtain ⟨⟨t703, t704, t705, t706, t707, t708⟩, A520, H⟩ := H; try dsimp only at H
         have A52 := Aside0.mk A520
         clear A520
         replace H := Option.bind_eq_some_iff.mp H; obtain ⟨⟨t710, t713⟩, A530, H⟩ := H; try dsimp only at H
         have A53 := Aside0.mk A530
         clear A530
         replace H := Option.bind_eq_some_iff.mp H; obtain ⟨t714, A540, H⟩ := H; try dsimp only at H
         have A54 := Aside0.mk A540
         clear A540
         replace H := Option.bind_eq_some_iff.mp H; obtain ⟨t717, A550, H⟩ := H; try dsimp only at H
         have A55 := Aside0.mk A550
         clear A550
         by_cases c56 : (t714.length : Int) = 1
         ·rw [if_pos c56] at H
          have c56b0 : ((t714.length : Int) == 1) = true := beq_iff_eq.mpr c56
          have c56b1 : ((t714.length : Int) != 1) = false := bne_eq_false_iff_eq.mpr c56
          clear c56
          by_cases c57 : 0 < (t714.length : Int)
          ·rw [if_pos c57] at H
           have c57b0 : decide (0 < (t714.length : Int)) = true := decide_eq_true c57
           have c57b1 : decide (0 < t714.length) = true := decide_eq_true (by omega)
           clear c57
           by_cases c58 : (rd t714 0) = 0
           ·rw [if_pos c58] at H
            have c58b0 : ((rd t714 0) == 0) = true := beq_iff_eq.mpr c58
            have c58b1 : ((rd t714 0) != 0) = false := bne_eq_false_iff_eq.mpr c58
            clear c58
            by_cases c59 : (t717.length : Int) = 2
            ·rw [if_pos c59] at H
             have c59b0 : ((t717.length : Int) == 2) = true := beq_iff_eq.mpr c59
             have c59b1 : ((t717.length : Int) != 2) = false := bne_eq_false_iff_eq.mpr c59
             clear c59
             by_cases c60 : 0 < (t717.length : Int)
             ·rw [if_pos c60] at H
              have c60b0 : decide (0 < (t717.length : Int)) = true := decide_eq_true c60
              have c60b1 : decide (0 < t717.length) = true := decide_eq_true (by omega)
              clear c60
              by_cases c61 : (rd t717 0) = 1
              ·rw [if_pos c61] at H
               have c61b0 : ((rd t717 0) == 1) = true := beq_iff_eq.mpr c61
               have c61b1 : ((rd t717 0) != 1) = false := bne_eq_false_iff_eq.mpr c61
               clear c61
               by_cases c62 : 1 < (t717.length : Int)
               ·rw [if_pos c62] at H
                have c62b0 : decide (1 < (t717.length : Int)) = true := decide_eq_true c62
                have c62b1 : decide (1 < t717.length) = true := decide_eq_true (by omega)
                clear c62
                by_cases c63 : (rd t717 1) = 2
                ·rw [if_pos c63] at H
                 have c63b0 : ((rd t717 1) == 2) = true := beq_iff_eq.mpr c63
                 have c63b1 : ((rd t717 1) != 2) = false := bne_eq_false_iff_eq.mpr c63
                 clear c63
                 replace H := Option.bind_eq_some_iff.mp H; obtain ⟨t723, A640, H⟩ := H; try dsimp only at H
                 have A64 := Aside0.mk A640
                 clear A640
                 by_cases c65 : t723 = 0
                 ·rw [if_pos c65] at H
                  have c65b0 : (t723 == 0) = true := beq_iff_eq.mpr c65
                  have c65b1 : (t723 != 0) = false := bne_eq_false_iff_eq.mpr c65
                  clear c65
                  replace H := Option.bind_eq_some_iff.mp H; obtain ⟨t724, A660, H⟩ := H; try dsimp only at H
                  have A66 := Aside0.mk A660
                  clear A660
                  by_cases c67 : t724 = 2
                  ·rw [if_pos c67] at H
                   have c67b0 : (t724 == 2) = true := beq_iff_eq.mpr c67
                   have c67b1 : (t724 != 2) = false := bne_eq_false_iff_eq.mpr c67
                   clear c67
                   by_cases c68 : x1_1 = 111
                   ·rw [if_pos c68] at H
                    have c68b0 : (x1_1 == 111) = true := beq_iff_eq.mpr c68
                    have c68b1 : (x1_1 != 111) = false := bne_eq_false_iff_eq.mpr c68
                    clear c68
                    by_cases c69 : t674 = 0
                    ·rw [if_pos c69] at H
                     have c69b0 : (t674 == 0) = true := beq_iff_eq.mpr c69
                     have c69b1 : (t674 != 0) = false := bne_eq_false_iff_eq.mpr c69
                     clear c69
                     by_cases c70 : (t669 == 85 && (t670 == 3 && (t671 == 0 && (t672 == 7 && (t673 == 0))))) = true
                     ·rw [if_pos c70] at H
                      have c70b0 : (t669 == 85 && (t670 == 3 && (t671 == 0 && (t672 == 7 && (t673 == 0))))) = true := c70
                      (try (have c70b1 : decide (t669 = 85 && (t670 == 3 && (t671 == 0 && (t672 == 7 && (t673 == 0))))) = true := by simpa using c70))
                      (try (have c70b2 : (t669 == 85 && (t670 == 3 && (t671 == 0 && (t672 == 7 && (t673 == 0))))) = true := by simpa using c70))
                      clear c70
                      by_cases c71 : t681 = 1
                      ·rw [if_pos c71] at H
                       have c71b0 : (t681 == 1) = true := beq_iff_eq.mpr c71
                       have c71b1 : (t681 != 1) = false := bne_eq_false_iff_eq.mpr c71
                       clear c71
                       by_cases c72 : t688 = 1
                       ·rw [if_pos c72] at H
                        have c72b0 : (t688 == 1) = true := beq_iff_eq.mpr c72
                        have c72b1 : (t688 != 1) = false := bne_eq_false_iff_eq.mpr c72
                        clear c72
                        by_cases c73 : t698 = 4
                        ·rw [if_pos c73] at H
                         have c73b0 : (t698 == 4) = true := beq_iff_eq.mpr c73
                         have c73b1 : (t698 != 4) = false := bne_eq_false_iff_eq.mpr c73
                         clear c73
                         by_cases c74 : t708 = 3
                         ·rw [if_pos c74] at H
                          have c74b0 : (t708 == 3) = true := beq_iff_eq.mpr c74
                          have c74b1 : (t708 != 3) = false := bne_eq_false_iff_eq.mpr c74
                          clear c74
                          by_cases c75 : t713 = 21
                          ·rw [if_pos c75] at H
                           have c75b0 : (t713 == 21) = true := beq_iff_eq.mpr c75
                           have c75b1 : (t713 != 21) = false := bne_eq_false_iff_eq.mpr c75
                           clear c75
                           replace H := Option.bind_eq_some_iff.mp H; obtain ⟨t725, A760, H⟩ := H; try dsimp only at H
                           have A76 := Aside0.mk A760
                           clear A760
                           obtain rfl := Option.some.inj H
                           go_wp2_with (first | ((with_reducible refine gate_callee (f := 21) rfl ?_); refine sh_call (some 87) Tryd.func21 #[.agg #[.int .i64 6, .int .i64 5, .int .i64 0, .bool true, .bool false], .agg #[.int .u8 0, .int .u8 3, .int .u8 0, .int .i16 7, .int .i32 0]] ?_; (with_reducible refine (insn_Make.calls k2 6 5 0 true false 0 3 0 7 0 t669 t670 t671 t672 t673 t674 _ ?side1 A46.out).mono ?_); (case side1 => repeat (first | exact (Kd.C_below HRG0.out HB.out) | (with_reducible refine Kd.C_alloc ?_ _) | (with_reducible refine Kd.C_drewN ?_ _) | (with_reducible refine Kd.C_drew ?_))); rintro e w77 ⟨rfl, hb⟩; refine ⟨_, rfl, ?_⟩; replace HO_67 := Aside0.mk (Kd.R_below (by (with_reducible repeat (first | apply Kd.R_alloc | apply Kd.R_drewN | apply Kd.R_drew)); exact HO_67.out) hb); replace HB := sh_b (w := w) hb; (try clear hb); (try clear hb2); (try clear hk); (try clear hi)) | ((with_reducible refine gate_dst (N := 10) rfl ?_); (try (refine gate_guard (by rfl) ?_; dsimp only)); refine sh_box 10 #[.int .u8 0, .int .u8 0, .int .u8 0, .int .i16 0, .int .i32 0] 24 ?_; intro gb675 hg w78 hbox hb; have GE675 := sh_z (w := w) hg; replace HO_67 := Aside0.mk (Kd.R_below (by (with_reducible repeat (first | apply Kd.R_alloc | apply Kd.R_drewN | apply Kd.R_drew)); exact HO_67.out) hb); replace HB := sh_b (w := w) hb; have BK675 := Aside0.mk (hbox); clear hb hbox hg; have hcz79 := blk_all5 BK675.out) | ((with_reducible refine gate_callee (f := 21) rfl ?_); refine sh_call (some 93) Tryd.func21 #[.agg #[.int .i64 1, .int .i64 8, .int .i64 0, .bool false, .bool true], .agg #[.int .u8 0, .int .u8 0, .int .u8 0, .int .i16 0, .int .i32 0]] ?_; (with_reducible refine (insn_Make.calls k2 1 8 0 false true 0 0 0 0 0 t676 t677 t678 t679 t680 t681 _ ?side1 A47.out).mono ?_); (case side1 => exact Kd.C_below HRG0.out b_now); rintro e w80 ⟨rfl, hb⟩; refine ⟨_, rfl, ?_⟩; replace HO_67 := Aside0.mk (Kd.R_below (by (with_reducible repeat (first | apply Kd.R_alloc | apply Kd.R_drewN | apply Kd.R_drew)); exact (Kd.R_mono (Kd.R_far (p := ⟨gb675, 4, none⟩) (Kd.R_far (p := ⟨gb675, 3, none⟩) (Kd.R_far (p := ⟨gb675, 2, none⟩) (Kd.R_far (p := ⟨gb675, 1, none⟩) (Kd.R_far (p := ⟨gb675, 0, none⟩) (Kd.R_types HO_67.out BK675.out (by decide)) (fun _ hk => hk.2) (.int .u8 t669)) (fun _ hk => hk.2) (.int .u8 t670)) (fun _ hk => hk.2) (.int .u8 t671)) (fun _ hk => hk.2) (.int .i16 t672)) (fun _ hk => hk.2) (.int .i32 t673)) (fun _ h_ => h_.1))) hb); replace BK675 := sh_kp (g := gb675) (t := 24) #[.int .u8 t669, .int .u8 t670, .int .u8 t671, .int .i16 t672, .int .i32 t673] hb; replace HB := sh_b (w := w) hb; (try clear hb); (try clear hb2); (try clear hk); (try clear hi)) | ((with_reducible refine gate_dst (N := 12) rfl ?_); (try (refine gate_guard (by rfl) ?_; dsimp only)); refine sh_box 12 #[.int .u8 0, .int .u8 0, .int .u8 0, .int .i16 0, .int .i32 0] 24 ?_; intro gb682 hg w81 hbox hb; have GE682 := sh_z (w := w) hg; have NB675_682 := sh_n BK675 hg; have NB682_675 := sh_s NB675_682; replace HO_67 := Aside0.mk (Kd.R_below (by (with_reducible repeat (first | apply Kd.R_alloc | apply Kd.R_drewN | apply Kd.R_drew)); exact HO_67.out) hb); replace BK675 := sh_k BK675 hb; replace HB := sh_b (w := w) hb; have BK682 := Aside0.mk (hbox); clear hb hbox hg; have hnb82 := NB682_675.out; have hnc82 := NB675_682.out; have hcz83 := blk_all5 BK682.out) | ((with_reducible refine gate_callee (f := 21) rfl ?_); refine sh_call (some 99) Tryd.func21 #[.agg #[.int .i64 0, .int .i64 0, .int .i64 0, .bool false, .bool false], .agg #[.int .u8 0, .int .u8 0, .int .u8 0, .int .i16 0, .int .i32 0]] ?_; (with_reducible refine (insn_Make.calls k2 0 0 0 false false 0 0 0 0 0 t683 t684 t685 t686 t687 t688 _ ?side1 A48.out).mono ?_); (case side1 => exact Kd.C_below HRG0.out b_now); rintro e w84 ⟨rfl, hb⟩; refine ⟨_, rfl, ?_⟩; replace HO_67 := Aside0.mk (Kd.R_below (by (with_reducible repeat (first | apply Kd.R_alloc | apply Kd.R_drewN | apply Kd.R_drew)); exact (Kd.R_mono (Kd.R_far (p := ⟨gb682, 4, none⟩) (Kd.R_far (p := ⟨gb682, 3, none⟩) (Kd.R_far (p := ⟨gb682, 2, none⟩) (Kd.R_far (p := ⟨gb682, 1, none⟩) (Kd.R_far (p := ⟨gb682, 0, none⟩) (Kd.R_types HO_67.out BK682.out (by decide)) (fun _ hk => hk.2) (.int .u8 t676)) (fun _ hk => hk.2) (.int .u8 t677)) (fun _ hk => hk.2) (.int .u8 t678)) (fun _ hk => hk.2) (.int .i16 t679)) (fun _ hk => hk.2) (.int .i32 t680)) (fun _ h_ => h_.1))) hb); replace BK675 := sh_kp (g := gb675) (t := 24) #[.int .u8 t669, .int .u8 t670, .int .u8 t671, .int .i16 t672, .int .i32 t673] hb; replace BK682 := sh_kp (g := gb682) (t := 24) #[.int .u8 t676, .int .u8 t677, .int .u8 t678, .int .i16 t679, .int .i32 t680] hb; replace HB := sh_b (w := w) hb; (try clear hb); (try clear hb2); (try clear hk); (try clear hi)) | ((with_reducible refine gate_dst (N := 14) rfl ?_); (try (refine gate_guard (by rfl) ?_; dsimp only)); refine sh_box 14 #[.int .u8 0, .int .u8 0, .int .u8 0, .int .i16 0, .int .i32 0] 24 ?_; intro gb689 hg w85 hbox hb; have GE689 := sh_z (w := w) hg; have NB675_689 := sh_n BK675 hg; have NB682_689 := sh_n BK682 hg; have NB689_675 := sh_s NB675_689; have NB689_682 := sh_s NB682_689; replace HO_67 := Aside0.mk (Kd.R_below (by (with_reducible repeat (first | apply Kd.R_alloc | apply Kd.R_drewN | apply Kd.R_drew)); exact HO_67.out) hb); replace BK675 := sh_k BK675 hb; replace BK682 := sh_k BK682 hb; replace HB := sh_b (w := w) hb; have BK689 := Aside0.mk (hbox); clear hb hbox hg; have hnb86 := NB689_675.out; have hnc86 := NB675_689.out; have hnb87 := NB689_682.out; have hnc87 := NB682_689.out; have hcz88 := blk_all5 BK689.out) | ((with_reducible refine gate_dst (N := 103) rfl ?_); (try (refine gate_guard (by rfl) ?_; dsimp only)); refine Kd.R_make (Kd.int .u8) _ 5 rfl (N := 103) rfl 36 _ _ rfl 7 rfl rfl Tryd.underlying36 (.int .u8 0) 1 info5 rfl (by decide) (by omega) 0 (ok := fun _ => True) (okp := fun _ => True) rfl (fun _ hk => hk) trivial (by omega) (by omega) (Below.refl _ _) (Nat.le_refl _) ?_; intro v691 w89 ho90 hb hg_ hnew_; clear hg_ hnew_; (first | rw [← Ny690.out] at ho90 | (simp only [Int.reduceToNat] at ho90; rw [← Ny690.out] at ho90)); have HO692 := Aside0.mk (Kd.R_lower ho90 (below_size b_now)); replace HO_67 := Aside0.mk (Kd.R_below (by (with_reducible repeat (first | apply Kd.R_alloc | apply Kd.R_drewN | apply Kd.R_drew)); exact (Kd.R_mono (Kd.R_far (p := ⟨gb689, 4, none⟩) (Kd.R_far (p := ⟨gb689, 3, none⟩) (Kd.R_far (p := ⟨gb689, 2, none⟩) (Kd.R_far (p := ⟨gb689, 1, none⟩) (Kd.R_far (p := ⟨gb689, 0, none⟩) (Kd.R_types HO_67.out BK689.out (by decide)) (fun _ hk => hk.2) (.int .u8 t683)) (fun _ hk => hk.2) (.int .u8 t684)) (fun _ hk => hk.2) (.int .u8 t685)) (fun _ hk => hk.2) (.int .i16 t686)) (fun _ hk => hk.2) (.int .i32 t687)) (fun _ h_ => h_.1))) hb); replace BK675 := sh_kp (g := gb675) (t := 24) #[.int .u8 t669, .int .u8 t670, .int .u8 t671, .int .i16 t672, .int .i32 t673] hb; replace BK682 := sh_kp (g := gb682) (t := 24) #[.int .u8 t676, .int .u8 t677, .int .u8 t678, .int .i16 t679, .int .i32 t680] hb; replace BK689 := sh_kp (g := gb689) (t := 24) #[.int .u8 t683, .int .u8 t684, .int .u8 t685, .int .i16 t686, .int .i32 t687] hb; replace HB := sh_b (w := w) hb; clear hb ho90; obtain ⟨Ao91, co91, eo91⟩ := Kd.R_slice HO692.out; subst eo91) | ((with_reducible refine gate_callee (f := 16) rfl ?_); refine sh_call (some 104) Tryd.func16 #[.slice Ao91 y690.length co91] ?_; (with_reducible refine (insn_Decode.calls _ _ y690 t693 t694 t695 t696 t697 t698 _ ?side1 ?side2 A50.out).mono ?_); (case side1 => repeat (first | exact (Kd.R_reads' HO692.out).2.2 | (with_reducible refine Kd.C_alloc ?_ _) | (with_reducible refine Kd.C_drewN ?_ _) | (with_reducible refine Kd.C_drew ?_))); (case side2 => exact (Kd.R_reads' HO692.out).2.1); rintro e w92 ⟨rfl, hb⟩; refine ⟨_, rfl, ?_⟩; replace HO_67 := Aside0.mk (Kd.R_below (by (with_reducible repeat (first | apply Kd.R_alloc | apply Kd.R_drewN | apply Kd.R_drew)); exact HO_67.out) hb); replace HO692 := Aside0.mk (Kd.R_below (by (with_reducible repeat (first | apply Kd.R_alloc | apply Kd.R_drewN | apply Kd.R_drew)); exact HO692.out) hb); replace BK675 := sh_k BK675 hb; replace BK682 := sh_k BK682 hb; replace BK689 := sh_k BK689 hb; replace HB := sh_b (w := w) hb; (try clear hb); (try clear hb2); (try clear hk); (try clear hi)) | ((with_reducible refine gate_dst (N := 16) rfl ?_); (try (refine gate_guard (by rfl) ?_; dsimp only)); refine sh_box 16 #[.int .u8 0, .int .u8 0, .int .u8 0, .int .i16 0, .int .i32 0] 24 ?_; intro gb699 hg w93 hbox hb; have GE699 := sh_z (w := w) hg; have NB675_699 := sh_n BK675 hg; have NB682_699 := sh_n BK682 hg; have NB689_699 := sh_n BK689 hg; have NB699_675 := sh_s NB675_699; have NB699_682 := sh_s NB682_699; have NB699_689 := sh_s NB689_699; replace HO_67 := Aside0.mk (Kd.R_below (by (with_reducible repeat (first | apply Kd.R_alloc | apply Kd.R_drewN | apply Kd.R_drew)); exact HO_67.out) hb); replace HO692 := Aside0.mk (Kd.R_below (by (with_reducible repeat (first | apply Kd.R_alloc | apply Kd.R_drewN | apply Kd.R_drew)); exact HO692.out) hb); replace BK675 := sh_k BK675 hb; replace BK682 := sh_k BK682 hb; replace BK689 := sh_k BK689 hb; replace HB := sh_b (w := w) hb; have BK699 := Aside0.mk (hbox); clear hb hbox hg; have hnb94 := NB699_675.out; have hnc94 := NB675_699.out; have hnb95 := NB699_682.out; have hnc95 := NB682_699.out; have hnb96 := NB699_689.out; have hnc96 := NB689_699.out; have hcz97 := blk_all5 BK699.out) | ((with_reducible refine gate_dst (N := 108) rfl ?_); (try (refine gate_guard (by rfl) ?_; dsimp only)); refine Kd.R_make (Kd.int .u8) _ 5 rfl (N := 108) rfl 36 _ _ rfl 9 rfl rfl Tryd.underlying36 (.int .u8 0) 1 info5 rfl (by decide) (by omega) 0 (ok := fun _ => True) (okp := fun _ => True) rfl (fun _ hk => hk) trivial (by omega) (by omega) (Below.refl _ _) (Nat.le_refl _) ?_; intro v701 w98 ho99 hb hg_ hnew_; clear hg_ hnew_; (first | rw [← Ny700.out] at ho99 | (simp only [Int.reduceToNat] at ho99; rw [← Ny700.out] at ho99)); have HO702 := Aside0.mk (Kd.R_lower (Kd.R_new' ho99 (Kd.R_lt (by (with_reducible repeat (first | apply Kd.R_alloc | apply Kd.R_drewN | apply Kd.R_drew)); exact (Kd.R_mono (Kd.R_far (p := ⟨gb699, 4, none⟩) (Kd.R_far (p := ⟨gb699, 3, none⟩) (Kd.R_far (p := ⟨gb699, 2, none⟩) (Kd.R_far (p := ⟨gb699, 1, none⟩) (Kd.R_far (p := ⟨gb699, 0, none⟩) (Kd.R_types HO692.out BK699.out (by decide)) (fun _ hk => hk.2) (.int .u8 t693)) (fun _ hk => hk.2) (.int .u8 t694)) (fun _ hk => hk.2) (.int .u8 t695)) (fun _ hk => hk.2) (.int .i16 t696)) (fun _ hk => hk.2) (.int .i32 t697)) (fun _ h_ => h_.1))))) (below_size b_now)); replace HO_67 := Aside0.mk (Kd.R_below (by (with_reducible repeat (first | apply Kd.R_alloc | apply Kd.R_drewN | apply Kd.R_drew)); exact (Kd.R_mono (Kd.R_far (p := ⟨gb699, 4, none⟩) (Kd.R_far (p := ⟨gb699, 3, none⟩) (Kd.R_far (p := ⟨gb699, 2, none⟩) (Kd.R_far (p := ⟨gb699, 1, none⟩) (Kd.R_far (p := ⟨gb699, 0, none⟩) (Kd.R_types HO_67.out BK699.out (by decide)) (fun _ hk => hk.2) (.int .u8 t693)) (fun _ hk => hk.2) (.int .u8 t694)) (fun _ hk => hk.2) (.int .u8 t695)) (fun _ hk => hk.2) (.int .i16 t696)) (fun _ hk => hk.2) (.int .i32 t697)) (fun _ h_ => h_.1))) hb); replace HO692 := Aside0.mk (Kd.R_elder' (by (with_reducible repeat (first | apply Kd.R_alloc | apply Kd.R_drewN | apply Kd.R_drew)); exact (Kd.R_mono (Kd.R_far (p := ⟨gb699, 4, none⟩) (Kd.R_far (p := ⟨gb699, 3, none⟩) (Kd.R_far (p := ⟨gb699, 2, none⟩) (Kd.R_far (p := ⟨gb699, 1, none⟩) (Kd.R_far (p := ⟨gb699, 0, none⟩) (Kd.R_types HO692.out BK699.out (by decide)) (fun _ hk => hk.2) (.int .u8 t693)) (fun _ hk => hk.2) (.int .u8 t694)) (fun _ hk => hk.2) (.int .u8 t695)) (fun _ hk => hk.2) (.int .i16 t696)) (fun _ hk => hk.2) (.int .i32 t697)) (fun _ h_ => h_.1))) (Kd.R_base ho99) hb); replace BK675 := sh_kp (g := gb675) (t := 24) #[.int .u8 t669, .int .u8 t670, .int .u8 t671, .int .i16 t672, .int .i32 t673] hb; replace BK682 := sh_kp (g := gb682) (t := 24) #[.int .u8 t676, .int .u8 t677, .int .u8 t678, .int .i16 t679, .int .i32 t680] hb; replace BK689 := sh_kp (g := gb689) (t := 24) #[.int .u8 t683, .int .u8 t684, .int .u8 t685, .int .i16 t686, .int .i32 t687] hb; replace BK699 := sh_kp (g := gb699) (t := 24) #[.int .u8 t693, .int .u8 t694, .int .u8 t695, .int .i16 t696, .int .i32 t697] hb; replace HB := sh_b (w := w) hb; clear hb ho99; obtain ⟨Ao100, co100, eo100⟩ := Kd.R_slice HO702.out; subst eo100) | ((with_reducible refine gate_callee (f := 16) rfl ?_); refine sh_call (some 109) Tryd.func16 #[.slice Ao100 y700.length co100] ?_; (with_reducible refine (insn_Decode.calls _ _ y700 t703 t704 t705 t706 t707 t708 _ ?side1 ?side2 A52.out).mono ?_); (case side1 => repeat (first | exact (Kd.R_reads' HO702.out).2.2 | (with_reducible refine Kd.C_alloc ?_ _) | (with_reducible refine Kd.C_drewN ?_ _) | (with_reducible refine Kd.C_drew ?_))); (case side2 => exact (Kd.R_reads' HO702.out).2.1); rintro e w101 ⟨rfl, hb⟩; refine ⟨_, rfl, ?_⟩; replace HO_67 := Aside0.mk (Kd.R_below (by (with_reducible repeat (first | apply Kd.R_alloc | apply Kd.R_drewN | apply Kd.R_drew)); exact HO_67.out) hb); replace HO692 := Aside0.mk (Kd.R_below (by (with_reducible repeat (first | apply Kd.R_alloc | apply Kd.R_drewN | apply Kd.R_drew)); exact HO692.out) hb); replace HO702 := Aside0.mk (Kd.R_below (by (with_reducible repeat (first | apply Kd.R_alloc | apply Kd.R_drewN | apply Kd.R_drew)); exact HO702.out) hb); replace BK675 := sh_k BK675 hb; replace BK682 := sh_k BK682 hb; replace BK689 := sh_k BK689 hb; replace BK699 := sh_k BK699 hb; replace HB := sh_b (w := w) hb; (try clear hb); (try clear hb2); (try clear hk); (try clear hi)) | ((with_reducible refine gate_dst (N := 18) rfl ?_); (try (refine gate_guard (by rfl) ?_; dsimp only)); refine sh_box 18 #[.int .u8 0, .int .u8 0, .int .u8 0, .int .i16 0, .int .i32 0] 24 ?_; intro gb709 hg w102 hbox hb; have GE709 := sh_z (w := w) hg; have NB675_709 := sh_n BK675 hg; have NB682_709 := sh_n BK682 hg; have NB689_709 := sh_n BK689 hg; have NB699_709 := sh_n BK699 hg; have NB709_675 := sh_s NB675_709; have NB709_682 := sh_s NB682_709; have NB709_689 := sh_s NB689_709; have NB709_699 := sh_s NB699_709; replace HO_67 := Aside0.mk (Kd.R_below (by (with_reducible repeat (first | apply Kd.R_alloc | apply Kd.R_drewN | apply Kd.R_drew)); exact HO_67.out) hb); replace HO692 := Aside0.mk (Kd.R_below (by (with_reducible repeat (first | apply Kd.R_alloc | apply Kd.R_drewN | apply Kd.R_drew)); exact HO692.out) hb); replace HO702 := Aside0.mk (Kd.R_below (by (with_reducible repeat (first | apply Kd.R_alloc | apply Kd.R_drewN | apply Kd.R_drew)); exact HO702.out) hb); replace BK675 := sh_k BK675 hb; replace BK682 := sh_k BK682 hb; replace BK689 := sh_k BK689 hb; replace BK699 := sh_k BK699 hb; replace HB := sh_b (w := w) hb; have BK709 := Aside0.mk (hbox); clear hb hbox hg; have hnb103 := NB709_675.out; have hnc103 := NB675_709.out; have hnb104 := NB709_682.out; have hnc104 := NB682_709.out; have hnb105 := NB709_689.out; have hnc105 := NB689_709.out; have hnb106 := NB709_699.out; have hnc106 := NB699_709.out; have hcz107 := blk_all5 BK709.out) | ((with_reducible refine gate_callee (f := 19) rfl ?_); refine sh_call (some 114) Tryd.func19 #[.agg #[.int .u8 0, .int .u8 16, .int .u8 0, .int .i16 0, .int .i32 0]] ?_; (with_reducible refine (insn_Encode.calls 0 16 0 0 0 t710 t713 _ A53.out).mono ?_); rintro e w108 ⟨v711, rfl, ho0, hb⟩; refine ⟨_, rfl, ?_⟩; have HO712 := Aside0.mk (Kd.R_lower (Kd.R_new' (Kd.R_new' ho0 (Kd.R_lt (by (with_reducible repeat (first | apply Kd.R_alloc | apply Kd.R_drewN | apply Kd.R_drew)); exact (Kd.R_mono (Kd.R_far (p := ⟨gb709, 4, none⟩) (Kd.R_far (p := ⟨gb709, 3, none⟩) (Kd.R_far (p := ⟨gb709, 2, none⟩) (Kd.R_far (p := ⟨gb709, 1, none⟩) (Kd.R_far (p := ⟨gb709, 0, none⟩) (Kd.R_types HO692.out BK709.out (by decide)) (fun _ hk => hk.2) (.int .u8 t703)) (fun _ hk => hk.2) (.int .u8 t704)) (fun _ hk => hk.2) (.int .u8 t705)) (fun _ hk => hk.2) (.int .i16 t706)) (fun _ hk => hk.2) (.int .i32 t707)) (fun _ h_ => h_.1))))) (Kd.R_lt (by (with_reducible repeat (first | apply Kd.R_alloc | apply Kd.R_drewN | apply Kd.R_drew)); exact (Kd.R_mono (Kd.R_far (p := ⟨gb709, 4, none⟩) (Kd.R_far (p := ⟨gb709, 3, none⟩) (Kd.R_far (p := ⟨gb709, 2, none⟩) (Kd.R_far (p := ⟨gb709, 1, none⟩) (Kd.R_far (p := ⟨gb709, 0, none⟩) (Kd.R_types HO702.out BK709.out (by decide)) (fun _ hk => hk.2) (.int .u8 t703)) (fun _ hk => hk.2) (.int .u8 t704)) (fun _ hk => hk.2) (.int .u8 t705)) (fun _ hk => hk.2) (.int .i16 t706)) (fun _ hk => hk.2) (.int .i32 t707)) (fun _ h_ => h_.1))))) (below_size b_now)); replace HO_67 := Aside0.mk (Kd.R_below (by (with_reducible repeat (first | apply Kd.R_alloc | apply Kd.R_drewN | apply Kd.R_drew)); exact (Kd.R_mono (Kd.R_far (p := ⟨gb709, 4, none⟩) (Kd.R_far (p := ⟨gb709, 3, none⟩) (Kd.R_far (p := ⟨gb709, 2, none⟩) (Kd.R_far (p := ⟨gb709, 1, none⟩) (Kd.R_far (p := ⟨gb709, 0, none⟩) (Kd.R_types HO_67.out BK709.out (by decide)) (fun _ hk => hk.2) (.int .u8 t703)) (fun _ hk => hk.2) (.int .u8 t704)) (fun _ hk => hk.2) (.int .u8 t705)) (fun _ hk => hk.2) (.int .i16 t706)) (fun _ hk => hk.2) (.int .i32 t707)) (fun _ h_ => h_.1))) hb); replace HO692 := Aside0.mk (Kd.R_elder' (by (with_reducible repeat (first | apply Kd.R_alloc | apply Kd.R_drewN | apply Kd.R_drew)); exact (Kd.R_mono (Kd.R_far (p := ⟨gb709, 4, none⟩) (Kd.R_far (p := ⟨gb709, 3, none⟩) (Kd.R_far (p := ⟨gb709, 2, none⟩) (Kd.R_far (p := ⟨gb709, 1, none⟩) (Kd.R_far (p := ⟨gb709, 0, none⟩) (Kd.R_types HO692.out BK709.out (by decide)) (fun _ hk => hk.2) (.int .u8 t703)) (fun _ hk => hk.2) (.int .u8 t704)) (fun _ hk => hk.2) (.int .u8 t705)) (fun _ hk => hk.2) (.int .i16 t706)) (fun _ hk => hk.2) (.int .i32 t707)) (fun _ h_ => h_.1))) (Kd.R_base ho0) hb); replace HO702 := Aside0.mk (Kd.R_elder' (by (with_reducible repeat (first | apply Kd.R_alloc | apply Kd.R_drewN | apply Kd.R_drew)); exact (Kd.R_mono (Kd.R_far (p := ⟨gb709, 4, none⟩) (Kd.R_far (p := ⟨gb709, 3, none⟩) (Kd.R_far (p := ⟨gb709, 2, none⟩) (Kd.R_far (p := ⟨gb709, 1, none⟩) (Kd.R_far (p := ⟨gb709, 0, none⟩) (Kd.R_types HO702.out BK709.out (by decide)) (fun _ hk => hk.2) (.int .u8 t703)) (fun _ hk => hk.2) (.int .u8 t704)) (fun _ hk => hk.2) (.int .u8 t705)) (fun _ hk => hk.2) (.int .i16 t706)) (fun _ hk => hk.2) (.int .i32 t707)) (fun _ h_ => h_.1))) (Kd.R_base ho0) hb); replace BK675 := sh_kp (g := gb675) (t := 24) #[.int .u8 t669, .int .u8 t670, .int .u8 t671, .int .i16 t672, .int .i32 t673] hb; replace BK682 := sh_kp (g := gb682) (t := 24) #[.int .u8 t676, .int .u8 t677, .int .u8 t678, .int .i16 t679, .int .i32 t680] hb; replace BK689 := sh_kp (g := gb689) (t := 24) #[.int .u8 t683, .int .u8 t684, .int .u8 t685, .int .i16 t686, .int .i32 t687] hb; replace BK699 := sh_kp (g := gb699) (t := 24) #[.int .u8 t693, .int .u8 t694, .int .u8 t695, .int .i16 t696, .int .i32 t697] hb; replace BK709 := sh_kp (g := gb709) (t := 24) #[.int .u8 t703, .int .u8 t704, .int .u8 t705, .int .i16 t706, .int .i32 t707] hb; replace HB := sh_b (w := w) hb; (try clear hb); (try clear hb2); (try clear hk); (try clear hi); (try clear ho0)) | ((with_reducible refine gate_callee (f := 24) rfl ?_); refine sh_call (some 118) Tryd.func24 #[.agg #[.int .u8 149, .int .u8 0, .int .u8 0, .int .i16 0, .int .i32 0]] ?_; (with_reducible refine (insn_Reads.calls k2 149 0 0 0 0 t714 _ ?side1 A54.out).mono ?_); (case side1 => repeat (first | exact (Kd.C_below HRG0.out HB.out) | (with_reducible refine Kd.C_alloc ?_ _) | (with_reducible refine Kd.C_drewN ?_ _) | (with_reducible refine Kd.C_drew ?_))); rintro e w109 ⟨v715, rfl, ho0, hb⟩; refine ⟨_, rfl, ?_⟩; have HO716 := Aside0.mk (Kd.R_lower ho0 (below_size b_now)); replace HO_67 := Aside0.mk (Kd.R_below (by (with_reducible repeat (first | apply Kd.R_alloc | apply Kd.R_drewN | apply Kd.R_drew)); exact HO_67.out) hb); replace HO692 := Aside0.mk (Kd.R_below (by (with_reducible repeat (first | apply Kd.R_alloc | apply Kd.R_drewN | apply Kd.R_drew)); exact HO692.out) hb); replace HO702 := Aside0.mk (Kd.R_below (by (with_reducible repeat (first | apply Kd.R_alloc | apply Kd.R_drewN | apply Kd.R_drew)); exact HO702.out) hb); replace HO712 := Aside0.mk (Kd.R_below (by (with_reducible repeat (first | apply Kd.R_alloc | apply Kd.R_drewN | apply Kd.R_drew)); exact HO712.out) hb); replace BK675 := sh_k BK675 hb; replace BK682 := sh_k BK682 hb; replace BK689 := sh_k BK689 hb; replace BK699 := sh_k BK699 hb; replace BK709 := sh_k BK709 hb; replace HB := sh_b (w := w) hb; (try clear hb); (try clear hb2); (try clear hk); (try clear hi); (try clear ho0)) | ((with_reducible refine gate_callee (f := 24) rfl ?_); refine sh_call (some 120) Tryd.func24 #[.agg #[.int .u8 15, .int .u8 2, .int .u8 1, .int .i16 0, .int .i32 0]] ?_; (with_reducible refine (insn_Reads.calls k2 15 2 1 0 0 t717 _ ?side1 A55.out).mono ?_); (case side1 => repeat (first | exact (Kd.C_below HRG0.out HB.out) | (with_reducible refine Kd.C_alloc ?_ _) | (with_reducible refine Kd.C_drewN ?_ _) | (with_reducible refine Kd.C_drew ?_))); rintro e w110 ⟨v718, rfl, ho0, hb⟩; refine ⟨_, rfl, ?_⟩; have HO719 := Aside0.mk (Kd.R_lower (Kd.R_new' ho0 (Kd.R_lt (by (with_reducible repeat (first | apply Kd.R_alloc | apply Kd.R_drewN | apply Kd.R_drew)); exact HO716.out))) (below_size b_now)); replace HO_67 := Aside0.mk (Kd.R_below (by (with_reducible repeat (first | apply Kd.R_alloc | apply Kd.R_drewN | apply Kd.R_drew)); exact HO_67.out) hb); replace HO692 := Aside0.mk (Kd.R_below (by (with_reducible repeat (first | apply Kd.R_alloc | apply Kd.R_drewN | apply Kd.R_drew)); exact HO692.out) hb); replace HO702 := Aside0.mk (Kd.R_below (by (with_reducible repeat (first | apply Kd.R_alloc | apply Kd.R_drewN | apply Kd.R_drew)); exact HO702.out) hb); replace HO712 := Aside0.mk (Kd.R_below (by (with_reducible repeat (first | apply Kd.R_alloc | apply Kd.R_drewN | apply Kd.R_drew)); exact HO712.out) hb); replace HO716 := Aside0.mk (Kd.R_elder' (by (with_reducible repeat (first | apply Kd.R_alloc | apply Kd.R_drewN | apply Kd.R_drew)); exact HO716.out) (Kd.R_base ho0) hb); replace BK675 := sh_k BK675 hb; replace BK682 := sh_k BK682 hb; replace BK689 := sh_k BK689 hb; replace BK699 := sh_k BK699 hb; replace BK709 := sh_k BK709 hb; replace HB := sh_b (w := w) hb; (try clear hb); (try clear hb2); (try clear hk); (try clear hi); (try clear ho0); obtain ⟨Ao111, co111, eo111⟩ := Kd.R_slice HO716.out; subst eo111; have p720 : 0 ≤ (0 : Int) := (by omega); have q720 : 0 < (t714.length : Int) := of_decide_eq_true (by first | (with_reducible assumption) | assumption); obtain ⟨ad720, e720, hx720_0⟩ := Kd.at_int (Kd.R_reads' HO716.out).2.2 0 p720 q720; cases e720; have qi720 : (0 < t714.length) = True := eq_true (by omega); (try rw [show ((0 : Int)).toNat = 0 from rfl] at hx720_0); (try rw [Addr.add_zero'] at hx720_0); replace p720 := eq_true p720; replace q720 := eq_true q720; obtain ⟨Ao112, co112, eo112⟩ := Kd.R_slice HO719.out; subst eo112; have p721 : 0 ≤ (0 : Int) := (by omega); have q721 : 0 < (t717.length : Int) := of_decide_eq_true (by first | (with_reducible assumption) | assumption); obtain ⟨ad721, e721, hx721_0⟩ := Kd.at_int (Kd.R_reads' HO719.out).2.2 0 p721 q721; cases e721; have qi721 : (0 < t717.length) = True := eq_true (by omega); (try rw [show ((0 : Int)).toNat = 0 from rfl] at hx721_0); (try rw [Addr.add_zero'] at hx721_0); replace p721 := eq_true p721; replace q721 := eq_true q721; have p722 : 0 ≤ (1 : Int) := (by omega); have q722 : 1 < (t717.length : Int) := of_decide_eq_true (by first | (with_reducible assumption) | assumption); obtain ⟨ad722, e722, hx722_0⟩ := Kd.at_int (Kd.R_reads' HO719.out).2.2 1 p722 q722; obtain rfl : ad721 = ad722 := (by injection e722); (try simp only [show (1 : Int).toNat = 1 from rfl, Nat.reduceMul, Nat.reduceEqDiff, Go.Addr.add, ↓reduceIte] at hx722_0); have qi722 : (1 < t717.length) = True := eq_true (by omega); (try rw [show ((1 : Int)).toNat = 1 from rfl] at hx722_0); replace p722 := eq_true p722; replace q722 := eq_true q722) | (go_at_call 26; (with_reducible refine (insn_Writes.calls k2 133 0 0 0 0 t723 _ ?side1 A64.out).mono ?_); (case side1 => repeat (first | exact (Kd.C_below HRG0.out HB.out) | (with_reducible refine Kd.C_alloc ?_ _) | (with_reducible refine Kd.C_drewN ?_ _) | (with_reducible refine Kd.C_drew ?_))); rintro e w113 ⟨rfl, hb⟩; replace HO_67 := Aside0.mk (Kd.R_below (by (with_reducible repeat (first | apply Kd.R_alloc | apply Kd.R_drewN | apply Kd.R_drew)); exact HO_67.out) hb); replace HO692 := Aside0.mk (Kd.R_below (by (with_reducible repeat (first | apply Kd.R_alloc | apply Kd.R_drewN | apply Kd.R_drew)); exact HO692.out) hb); replace HO702 := Aside0.mk (Kd.R_below (by (with_reducible repeat (first | apply Kd.R_alloc | apply Kd.R_drewN | apply Kd.R_drew)); exact HO702.out) hb); replace HO712 := Aside0.mk (Kd.R_below (by (with_reducible repeat (first | apply Kd.R_alloc | apply Kd.R_drewN | apply Kd.R_drew)); exact HO712.out) hb); replace HO716 := Aside0.mk (Kd.R_below (by (with_reducible repeat (first | apply Kd.R_alloc | apply Kd.R_drewN | apply Kd.R_drew)); exact HO716.out) hb); replace HO719 := Aside0.mk (Kd.R_below (by (with_reducible repeat (first | apply Kd.R_alloc | apply Kd.R_drewN | apply Kd.R_drew)); exact HO719.out) hb); replace BK675 := sh_k BK675 hb; replace BK682 := sh_k BK682 hb; replace BK689 := sh_k BK689 hb; replace BK699 := sh_k BK699 hb; replace BK709 := sh_k BK709 hb; replace HB := sh_b (w := w) hb; (try clear hb); (try clear hb2); (try clear hk); (try clear hi)) | (go_at_call 28; (with_reducible refine (insn_Places.calls k2 24 0 0 0 0 t724 _ ?side1 A66.out).mono ?_); (case side1 => repeat (first | exact (Kd.C_below HRG0.out HB.out) | (with_reducible refine Kd.C_alloc ?_ _) | (with_reducible refine Kd.C_drewN ?_ _) | (with_reducible refine Kd.C_drew ?_))); rintro e w114 ⟨rfl, hb⟩; replace HO_67 := Aside0.mk (Kd.R_below (by (with_reducible repeat (first | apply Kd.R_alloc | apply Kd.R_drewN | apply Kd.R_drew)); exact HO_67.out) hb); replace HO692 := Aside0.mk (Kd.R_below (by (with_reducible repeat (first | apply Kd.R_alloc | apply Kd.R_drewN | apply Kd.R_drew)); exact HO692.out) hb); replace HO702 := Aside0.mk (Kd.R_below (by (with_reducible repeat (first | apply Kd.R_alloc | apply Kd.R_drewN | apply Kd.R_drew)); exact HO702.out) hb); replace HO712 := Aside0.mk (Kd.R_below (by (with_reducible repeat (first | apply Kd.R_alloc | apply Kd.R_drewN | apply Kd.R_drew)); exact HO712.out) hb); replace HO716 := Aside0.mk (Kd.R_below (by (with_reducible repeat (first | apply Kd.R_alloc | apply Kd.R_drewN | apply Kd.R_drew)); exact HO716.out) hb); replace HO719 := Aside0.mk (Kd.R_below (by (with_reducible repeat (first | apply Kd.R_alloc | apply Kd.R_drewN | apply Kd.R_drew)); exact HO719.out) hb); replace BK675 := sh_k BK675 hb; replace BK682 := sh_k BK682 hb; replace BK689 := sh_k BK689 hb; replace BK699 := sh_k BK699 hb; replace BK709 := sh_k BK709 hb; replace HB := sh_b (w := w) hb; (try clear hb); (try clear hb2); (try clear hk); (try clear hi); have hcz115 := blk_all5 BK675.out) | (go_at_call 15; (with_reducible refine (stockadelaw02_wakes.calls k2  t725 _ ?side1 (by first | rfl | exact HRT.out) A76.out).mono ?_); (case side1 => repeat (first | exact (Kd.C_below HRG0.out HB.out) | (with_reducible refine Kd.C_alloc ?_ _) | (with_reducible refine Kd.C_drewN ?_ _) | (with_reducible refine Kd.C_drew ?_))); rintro e w116 ⟨rfl, hb⟩; replace HO_67 := Aside0.mk (Kd.R_below (by (with_reducible repeat (first | apply Kd.R_alloc | apply Kd.R_drewN | apply Kd.R_drew)); exact HO_67.out) hb); replace HO692 := Aside0.mk (Kd.R_below (by (with_reducible repeat (first | apply Kd.R_alloc | apply Kd.R_drewN | apply Kd.R_drew)); exact HO692.out) hb); replace HO702 := Aside0.mk (Kd.R_below (by (with_reducible repeat (first | apply Kd.R_alloc | apply Kd.R_drewN | apply Kd.R_drew)); exact HO702.out) hb); replace HO712 := Aside0.mk (Kd.R_below (by (with_reducible repeat (first | apply Kd.R_alloc | apply Kd.R_drewN | apply Kd.R_drew)); exact HO712.out) hb); replace HO716 := Aside0.mk (Kd.R_below (by (with_reducible repeat (first | apply Kd.R_alloc | apply Kd.R_drewN | apply Kd.R_drew)); exact HO716.out) hb); replace HO719 := Aside0.mk (Kd.R_below (by (with_reducible repeat (first | apply Kd.R_alloc | apply Kd.R_drewN | apply Kd.R_drew)); exact HO719.out) hb); replace BK675 := sh_k BK675 hb; replace BK682 := sh_k BK682 hb; replace BK689 := sh_k BK689 hb; replace BK699 := sh_k BK699 hb; replace BK709 := sh_k BK709 hb; replace HB := sh_b (w := w) hb; (try clear hb); (try clear hb2); (try clear hk); (try clear hi)))
                           go_ret
                           exact ⟨ret_now, b_now⟩
                          ·rw [if_neg c75] at H
                           have c75b0 : (t713 == 21) = false := beq_eq_false_iff_ne.mpr c75
                           have c75b1 : (t713 != 21) = true := bne_iff_ne.mpr c75
                           obtain rfl := Option.some.inj H
                           exact absurd HRT.out (by simp)
                         ·rw [if_neg c74] at H
                          have c74b0 : (t708 == 3) = false := beq_eq_false_iff_ne.mpr c74
                          have c74b1 : (t708 != 3) = true := bne_iff_ne.mpr c74
                          obtain rfl := Option.some.inj H
                          exact absurd HRT.out (by simp)
                        ·rw [if_neg c73] at H
                         have c73b0 : (t698 == 4) = false := beq_eq_false_iff_ne.mpr c73
                         have c73b1 : (t698 != 4) = true := bne_iff_ne.mpr c73
                         obtain rfl := Option.some.inj H
                         exact absurd HRT.out (by simp)
                       ·rw [if_neg c72] at H
                        have c72b0 : (t688 == 1) = false := beq_eq_false_iff_ne.mpr c72
                        have c72b1 : (t688 != 1) = true := bne_iff_ne.mpr c72
                        obtain rfl := Option.some.inj H
                        exact absurd HRT.out (by simp)
                      ·rw [if_neg c71] at H
                       have c71b0 : (t681 == 1) = false := beq_eq_false_iff_ne.mpr c71
                       have c71b1 : (t681 != 1) = true := bne_iff_ne.mpr c71
                       obtain rfl := Option.some.inj H
                       exact absurd HRT.out (by simp)
                     ·rw [if_neg c70] at H
                      have c70b0 : (t669 == 85 && (t670 == 3 && (t671 == 0 && (t672 == 7 && (t673 == 0))))) = false := by simpa using c70
                      (try (have c70b1 : decide (t669 = 85 && (t670 == 3 && (t671 == 0 && (t672 == 7 && (t673 == 0))))) = false := by simpa using c70))
                      (try (have c70b2 : (t669 == 85 && (t670 == 3 && (t671 == 0 && (t672 == 7 && (t673 == 0))))) = false := by simpa using c70))
                      (try (have c70b3 : ¬ (t669 = 85 && (t670 == 3 && (t671 == 0 && (t672 == 7 && (t673 == 0))))) := by simpa using c70))
                      clear c70
                      obtain rfl := Option.some.inj H
                      exact absurd HRT.out (by simp)
                    ·rw [if_neg c69] at H
                     have c69b0 : (t674 == 0) = false := beq_eq_false_iff_ne.mpr c69
                     have c69b1 : (t674 != 0) = true := bne_iff_ne.mpr c69
                     obtain rfl := Option.some.inj H
                     exact absurd HRT.out (by simp)
                   ·rw [if_neg c68] at H
                    have c68b0 : (x1_1 == 111) = false := beq_eq_false_iff_ne.mpr c68
                    have c68b1 : (x1_1 != 111) = true := bne_iff_ne.mpr c68
                    obtain rfl := Option.some.inj H
                    exact absurd HRT.out (by simp)
                  ·rw [if_neg c67] at H
                   have c67b0 : (t724 == 2) = false := beq_eq_false_iff_ne.mpr c67
                   have c67b1 : (t724 != 2) = true := bne_iff_ne.mpr c67
                   obtain rfl := Option.some.inj H
                   exact absurd HRT.out (by simp)
                 ·rw [if_neg c65] at H
                  have c65b0 : (t723 == 0) = false := beq_eq_false_iff_ne.mpr c65
                  have c65b1 : (t723 != 0) = true := bne_iff_ne.mpr c65
                  obtain rfl := Option.some.inj H
                  exact absurd HRT.out (by simp)
                ·rw [if_neg c63] at H
                 have c63b0 : ((rd t717 1) == 2) = false := beq_eq_false_iff_ne.mpr c63
                 have c63b1 : ((rd t717 1) != 2) = true := bne_iff_ne.mpr c63
                 obtain rfl := Option.some.inj H
                 exact absurd HRT.out (by simp)
               ·rw [if_neg c62] at H
                exact absurd H (by simp)
              ·rw [if_neg c61] at H
               have c61b0 : ((rd t717 0) == 1) = false := beq_eq_false_iff_ne.mpr c61
               have c61b1 : ((rd t717 0) != 1) = true := bne_iff_ne.mpr c61
               obtain rfl := Option.some.inj H
               exact absurd HRT.out (by simp)
             ·rw [if_neg c60] at H
              exact absurd H (by simp)
            ·rw [if_neg c59] at H
             have c59b0 : ((t717.length : Int) == 2) = false := beq_eq_false_iff_ne.mpr c59
             have c59b1 : ((t717.length : Int) != 2) = true := bne_iff_ne.mpr c59
             obtain rfl := Option.some.inj H
             exact absurd HRT.out (by simp)
           ·rw [if_neg c58] at H
            have c58b0 : ((rd t714 0) == 0) = false := beq_eq_false_iff_ne.mpr c58
            have c58b1 : ((rd t714 0) != 0) = true := bne_iff_ne.mpr c58
            obtain rfl := Option.some.inj H
            exact absurd HRT.out (by simp)
          ·rw [if_neg c57] at H
           exact absurd H (by simp)
         ·rw [if_neg c56] at H
          have c56b0 : ((t714.length : Int) == 1) = false := beq_eq_false_iff_ne.mpr c56
          have c56b1 : ((t714.length : Int) != 1) = true := bne_iff_ne.mpr c56
          obtain rfl := Option.some.inj H
          exact absurd HRT.out (by simp)
        ·rw [if_neg c51] at H
         exact absurd H (by simp)
       ·rw [if_neg c49] at H
        exact absurd H (by simp)

end Go.Proofs.YtkojjjdeacdabaaDoor.P
