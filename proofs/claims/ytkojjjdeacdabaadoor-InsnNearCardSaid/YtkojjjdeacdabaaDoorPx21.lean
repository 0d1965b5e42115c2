/- Made by this session's driver over the kit's printer: for each Go function a Lean function with the same answers, and a proof that the Go call comes to these answers; no conditions but the ones each theorem names. -/
import Derived.Test.YtkojjjdeacdabaaDoorPx0
import Derived.Test.YtkojjjdeacdabaaDoorPx2
import Derived.Test.YtkojjjdeacdabaaDoorPx6
import Derived.Test.YtkojjjdeacdabaaDoorPx10
import Derived.Test.YtkojjjdeacdabaaDoorPx18
import Derived.Test.YtkojjjdeacdabaaDoorPx19
import Derived.Test.YtkojjjdeacdabaaDoorPx20
namespace Go.Proofs.YtkojjjdeacdabaaDoor.P
open Go.RowKit Go.Proofs.YtkojjjdeacdabaaDoorW.PrintWords Go.Proofs.YtkojjjdeacdabaaDoorW.PrintLast Go.Proofs.YtkojjjdeacdabaaDoorW.PrintMore
attribute [local go_sem] max2_int min2_int max_two min_two max_three min_three max_four min_four   -- for this text's walks alone
set_option linter.unusedVariables false
set_option linter.unusedSimpArgs false

attribute [local go_sem high] eqA26
/-! ### stockadelaw02_InsnNear: function 10 -/
mutual
def stockadelaw02_InsnNear.l0 : Nat → Int → Int → List Int → Int → Int → Int → Int → Int → Int → Int → Int → Int → Int → Int → Bool → Bool → Option (Bool)
 | 0, _, _, _, _, _, _, _, _, _, _, _, _, _, _, _, _ => none
 | k + 1, x1, x2, x9, x10, x11, x12, x597000, x597001, x597002, x597003, x597004, x604000, x604001, x604002, x604003, x604004 => if x12 < (x9.length : Int) then (if 0 ≤ x12 then (if (rd x9 x12) < 0 then (some false) else (if (rd x9 x12) > 10 then (some false) else (if x12 > 0 then (if 0 ≤ (wrap64 (x12 - 1)) then (if (wrap64 (x12 - 1)) < (x9.length : Int) then (if (rd x9 x12) ≤ (rd x9 (wrap64 (x12 - 1))) then (some false) else (stockadelaw02_InsnNear.l0 k x1 x2 x9 x10 x11 (wrap64 (x12 + 1)) x597000 x597001 x597002 x597003 x597004 x604000 x604001 x604002 x604003 x604004)) else (none)) else (none)) else (stockadelaw02_InsnNear.l0 k x1 x2 x9 x10 x11 (wrap64 (x12 + 1)) x597000 x597001 x597002 x597003 x597004 x604000 x604001 x604002 x604003 x604004)))) else (none)) else ((insn_Of.f k x597000 x597001 x597002 x1 x597004).bind fun bt615 => (if x604000 = 3 then (stockadelaw02_InsnNear.j1 k x1 x2 x10 x11 bt615.2.2.2.2.2 true x597000 x597001 x597002 x597003 x597004 x604000 x604001 x604002 x604003 x604004 bt615.1 bt615.2.1 bt615.2.2.1 bt615.2.2.2.1 bt615.2.2.2.2.1) else (if x604000 = 4 then (stockadelaw02_InsnNear.j1 k x1 x2 x10 x11 bt615.2.2.2.2.2 true x597000 x597001 x597002 x597003 x597004 x604000 x604001 x604002 x604003 x604004 bt615.1 bt615.2.1 bt615.2.2.1 bt615.2.2.2.1 bt615.2.2.2.2.1) else (if x604000 = 5 then (stockadelaw02_InsnNear.j1 k x1 x2 x10 x11 bt615.2.2.2.2.2 true x597000 x597001 x597002 x597003 x597004 x604000 x604001 x604002 x604003 x604004 bt615.1 bt615.2.1 bt615.2.2.1 bt615.2.2.2.1 bt615.2.2.2.2.1) else (if x604000 = 6 then (stockadelaw02_InsnNear.j1 k x1 x2 x10 x11 bt615.2.2.2.2.2 true x597000 x597001 x597002 x597003 x597004 x604000 x604001 x604002 x604003 x604004 bt615.1 bt615.2.1 bt615.2.2.1 bt615.2.2.2.1 bt615.2.2.2.2.1) else (stockadelaw02_InsnNear.j1 k x1 x2 x10 x11 bt615.2.2.2.2.2 (x604000 == 7) x597000 x597001 x597002 x597003 x597004 x604000 x604001 x604002 x604003 x604004 bt615.1 bt615.2.1 bt615.2.2.1 bt615.2.2.2.1 bt615.2.2.2.2.1))))))
def stockadelaw02_InsnNear.j1 : Nat → Int → Int → Int → Int → Int → Bool → Int → Int → Int → Int → Int → Int → Int → Int → Bool → Bool → Int → Int → Int → Bool → Bool → Option (Bool)
 | 0, _, _, _, _, _, _, _, _, _, _, _, _, _, _, _, _, _, _, _, _, _ => none
 | k + 1, x1, x2, x10, x11, x15, x113, x597000, x597001, x597002, x597003, x597004, x604000, x604001, x604002, x604003, x604004, x622000, x622001, x622002, x622003, x622004 => if x113 = true then (if x15 = 0 then (stockadelaw02_InsnNear.j2 k x2 x10 x11 (!(x622000 == x604000) || (!(x622001 == x604001) || (!(x622002 == x604002) || (!(x622003 == x604003) || (!(x622004 == x604004)))))) x597000 x597001 x597002 x597003 x597004 x604000 x604001 x604002 x604003 x604004) else (stockadelaw02_InsnNear.j2 k x2 x10 x11 true x597000 x597001 x597002 x597003 x597004 x604000 x604001 x604002 x604003 x604004)) else (if ((x15 == 0) != (x1 == 0)) = true then (some false) else ((insn_Of.f k x597000 x597001 x597002 x597003 x2).bind fun bt633 => (if bt633.2.2.2.2.2 = 0 then (if x604000 = 2 then (if x10 ≥ (-1) then (if x10 < 10 then (if x11 ≥ 1 then (if x11 ≤ 2 then ((stockadelaw02_wakes.f k).bind fun t639 => (some t639)) else (some false)) else (some false)) else (some false)) else (some false)) else (if (bt633.1 == x604000 && (bt633.2.1 == x604001 && (bt633.2.2.1 == x604002 && (bt633.2.2.2.1 == x604003 && (bt633.2.2.2.2.1 == x604004))))) = true then (if x10 ≥ (-1) then (if x10 < 10 then (if x11 ≥ 1 then (if x11 ≤ 2 then ((stockadelaw02_wakes.f k).bind fun t640 => (some t640)) else (some false)) else (some false)) else (some false)) else (some false)) else (some false))) else (if x10 ≥ (-1) then (if x10 < 10 then (if x11 ≥ 1 then (if x11 ≤ 2 then ((stockadelaw02_wakes.f k).bind fun t641 => (some t641)) else (some false)) else (some false)) else (some false)) else (some false)))))
def stockadelaw02_InsnNear.j2 : Nat → Int → Int → Int → Bool → Int → Int → Int → Int → Int → Int → Int → Int → Bool → Bool → Option (Bool)
 | 0, _, _, _, _, _, _, _, _, _, _, _, _, _, _ => none
 | k + 1, x2, x10, x11, x120, x597000, x597001, x597002, x597003, x597004, x604000, x604001, x604002, x604003, x604004 => if x120 = true then (some false) else ((insn_Of.f k x597000 x597001 x597002 x597003 x2).bind fun bt623 => (if bt623.2.2.2.2.2 = 0 then (if x604000 = 2 then (if x10 ≥ (-1) then (if x10 < 10 then (if x11 ≥ 1 then (if x11 ≤ 2 then ((stockadelaw02_wakes.f k).bind fun t629 => (some t629)) else (some false)) else (some false)) else (some false)) else (some false)) else (if (bt623.1 == x604000 && (bt623.2.1 == x604001 && (bt623.2.2.1 == x604002 && (bt623.2.2.2.1 == x604003 && (bt623.2.2.2.2.1 == x604004))))) = true then (if x10 ≥ (-1) then (if x10 < 10 then (if x11 ≥ 1 then (if x11 ≤ 2 then ((stockadelaw02_wakes.f k).bind fun t630 => (some t630)) else (some false)) else (some false)) else (some false)) else (some false)) else (some false))) else (if x10 ≥ (-1) then (if x10 < 10 then (if x11 ≥ 1 then (if x11 ≤ 2 then ((stockadelaw02_wakes.f k).bind fun t631 => (some t631)) else (some false)) else (some false)) else (some false)) else (some false))))
end
def stockadelaw02_InsnNear.f (k : Nat) (a0_0 : Int) (a0_1 : Int) (a0_2 : Int) (a0_3 : Int) (a0_4 : Int) (a1 : Int) (a2 : Int) : Option (Bool) := (insn_Of.f k a0_0 a0_1 a0_2 a0_3 a0_4).bind fun bt597 => ((insn_Reads.f k a0_0 a0_1 a0_2 a0_3 a0_4).bind fun t604 => ((insn_Writes.f k a0_0 a0_1 a0_2 a0_3 a0_4).bind fun t607 => ((insn_Places.f k a0_0 a0_1 a0_2 a0_3 a0_4).bind fun t608 => (if bt597.2.2.2.2.2 = 0 then (stockadelaw02_InsnNear.l0 k a1 a2 t604 t607 t608 0 a0_0 a0_1 a0_2 a0_3 a0_4 bt597.1 bt597.2.1 bt597.2.2.1 bt597.2.2.2.1 bt597.2.2.2.2.1) else (if (bt597.1 == 0 && (bt597.2.1 == 0 && (bt597.2.2.1 == 0 && (!bt597.2.2.2.1 && (!bt597.2.2.2.2.1))))) = true then (if (t604.length : Int) = 0 then (if t607 = (-1) then (if t608 = 0 then ((stockadelaw02_wakes.f k).bind fun t609 => (some t609)) else (some false)) else (some false)) else (some false)) else (some false))))))
theorem sh_gen {P : Program} {c : Code} {Q : Exit → Act → World → Prop} {a : Act} {W : World} (F : World → Prop) (hF : F W) (h : ∀ wg, F wg → c.wp P Q a wg) : c.wp P Q a W := h _ hF
theorem stockadelaw02_InsnNear.mono_l : ∀ k, (∀ y0 y1 y2 y3 y4 y5 y6 y7 y8 y9 y10 y11 y12 y13 y14 y15, LeO (stockadelaw02_InsnNear.l0 k y0 y1 y2 y3 y4 y5 y6 y7 y8 y9 y10 y11 y12 y13 y14 y15) (stockadelaw02_InsnNear.l0 (k + 1) y0 y1 y2 y3 y4 y5 y6 y7 y8 y9 y10 y11 y12 y13 y14 y15)) ∧ (∀ y0 y1 y2 y3 y4 y5 y6 y7 y8 y9 y10 y11 y12 y13 y14 y15 y16 y17 y18 y19 y20, LeO (stockadelaw02_InsnNear.j1 k y0 y1 y2 y3 y4 y5 y6 y7 y8 y9 y10 y11 y12 y13 y14 y15 y16 y17 y18 y19 y20) (stockadelaw02_InsnNear.j1 (k + 1) y0 y1 y2 y3 y4 y5 y6 y7 y8 y9 y10 y11 y12 y13 y14 y15 y16 y17 y18 y19 y20)) ∧ (∀ y0 y1 y2 y3 y4 y5 y6 y7 y8 y9 y10 y11 y12 y13, LeO (stockadelaw02_InsnNear.j2 k y0 y1 y2 y3 y4 y5 y6 y7 y8 y9 y10 y11 y12 y13) (stockadelaw02_InsnNear.j2 (k + 1) y0 y1 y2 y3 y4 y5 y6 y7 y8 y9 y10 y11 y12 y13))
 | 0 => ⟨fun _ _ _ _ _ _ _ _ _ _ _ _ _ _ _ _ r h => by simp [stockadelaw02_InsnNear.l0] at h, fun _ _ _ _ _ _ _ _ _ _ _ _ _ _ _ _ _ _ _ _ _ r h => by simp [stockadelaw02_InsnNear.j1] at h, fun _ _ _ _ _ _ _ _ _ _ _ _ _ _ r h => by simp [stockadelaw02_InsnNear.j2] at h⟩
 | k + 1 => by
  obtain ⟨ih0, ih1, ih2⟩ := stockadelaw02_InsnNear.mono_l k
  refine ⟨?_, ?_, ?_⟩
  ·intro y0 y1 y2 y3 y4 y5 y6 y7 y8 y9 y10 y11 y12 y13 y14 y15
   unfold stockadelaw02_InsnNear.l0
   repeat' first
   | (with_reducible exact ih0 _ _ _ _ _ _ _ _ _ _ _ _ _ _ _ _)
   | (with_reducible exact ih1 _ _ _ _ _ _ _ _ _ _ _ _ _ _ _ _ _ _ _ _ _)
   | (with_reducible exact ih2 _ _ _ _ _ _ _ _ _ _ _ _ _ _)
   | (with_reducible exact insn_Of.mono _ _ _ _ _ _)
   | (with_reducible exact insn_Places.mono _ _ _ _ _ _)
   | (with_reducible exact insn_Reads.mono _ _ _ _ _ _)
   | (with_reducible exact insn_Writes.mono _ _ _ _ _ _)
   | (with_reducible exact stockadelaw02_wakes.mono _)
   | (with_reducible exact LeO.refl _)
   | (with_reducible exact LeO.none _)
   | (with_reducible refine LeO.ite ?_ ?_)
   | (with_reducible refine LeO.bind ?_ (fun _ => ?_))
   | exact ih0 _ _ _ _ _ _ _ _ _ _ _ _ _ _ _ _
   | exact ih1 _ _ _ _ _ _ _ _ _ _ _ _ _ _ _ _ _ _ _ _ _
   | exact ih2 _ _ _ _ _ _ _ _ _ _ _ _ _ _
   | exact insn_Of.mono _ _ _ _ _ _
   | exact insn_Places.mono _ _ _ _ _ _
   | exact insn_Reads.mono _ _ _ _ _ _
   | exact insn_Writes.mono _ _ _ _ _ _
   | exact stockadelaw02_wakes.mono _
   | exact LeO.none _
   | refine LeO.ite ?_ ?_
   | refine LeO.bind ?_ (fun _ => ?_)
  ·intro y0 y1 y2 y3 y4 y5 y6 y7 y8 y9 y10 y11 y12 y13 y14 y15 y16 y17 y18 y19 y20
   unfold stockadelaw02_InsnNear.j1
   repeat' first
   | (with_reducible exact ih0 _ _ _ _ _ _ _ _ _ _ _ _ _ _ _ _)
   | (with_reducible exact ih1 _ _ _ _ _ _ _ _ _ _ _ _ _ _ _ _ _ _ _ _ _)
   | (with_reducible exact ih2 _ _ _ _ _ _ _ _ _ _ _ _ _ _)
   | (with_reducible exact insn_Of.mono _ _ _ _ _ _)
   | (with_reducible exact insn_Places.mono _ _ _ _ _ _)
   | (with_reducible exact insn_Reads.mono _ _ _ _ _ _)
   | (with_reducible exact insn_Writes.mono _ _ _ _ _ _)
   | (with_reducible exact stockadelaw02_wakes.mono _)
   | (with_reducible exact LeO.refl _)
   | (with_reducible exact LeO.none _)
   | (with_reducible refine LeO.ite ?_ ?_)
   | (with_reducible refine LeO.bind ?_ (fun _ => ?_))
   | exact ih0 _ _ _ _ _ _ _ _ _ _ _ _ _ _ _ _
   | exact ih1 _ _ _ _ _ _ _ _ _ _ _ _ _ _ _ _ _ _ _ _ _
   | exact ih2 _ _ _ _ _ _ _ _ _ _ _ _ _ _
   | exact insn_Of.mono _ _ _ _ _ _
   | exact insn_Places.mono _ _ _ _ _ _
   | exact insn_Reads.mono _ _ _ _ _ _
   | exact insn_Writes.mono _ _ _ _ _ _
   | exact stockadelaw02_wakes.mono _
   | exact LeO.none _
   | refine LeO.ite ?_ ?_
   | refine LeO.bind ?_ (fun _ => ?_)
  ·intro y0 y1 y2 y3 y4 y5 y6 y7 y8 y9 y10 y11 y12 y13
   unfold stockadelaw02_InsnNear.j2
   repeat' first
   | (with_reducible exact ih0 _ _ _ _ _ _ _ _ _ _ _ _ _ _ _ _)
   | (with_reducible exact ih1 _ _ _ _ _ _ _ _ _ _ _ _ _ _ _ _ _ _ _ _ _)
   | (with_reducible exact ih2 _ _ _ _ _ _ _ _ _ _ _ _ _ _)
   | (with_reducible exact insn_Of.mono _ _ _ _ _ _)
   | (with_reducible exact insn_Places.mono _ _ _ _ _ _)
   | (with_reducible exact insn_Reads.mono _ _ _ _ _ _)
   | (with_reducible exact insn_Writes.mono _ _ _ _ _ _)
   | (with_reducible exact stockadelaw02_wakes.mono _)
   | (with_reducible exact LeO.refl _)
   | (with_reducible exact LeO.none _)
   | (with_reducible refine LeO.ite ?_ ?_)
   | (with_reducible refine LeO.bind ?_ (fun _ => ?_))
   | exact ih0 _ _ _ _ _ _ _ _ _ _ _ _ _ _ _ _
   | exact ih1 _ _ _ _ _ _ _ _ _ _ _ _ _ _ _ _ _ _ _ _ _
   | exact ih2 _ _ _ _ _ _ _ _ _ _ _ _ _ _
   | exact insn_Of.mono _ _ _ _ _ _
   | exact insn_Places.mono _ _ _ _ _ _
   | exact insn_Reads.mono _ _ _ _ _ _
   | exact insn_Writes.mono _ _ _ _ _ _
   | exact stockadelaw02_wakes.mono _
   | exact LeO.none _
   | refine LeO.ite ?_ ?_
   | refine LeO.bind ?_ (fun _ => ?_)
theorem stockadelaw02_InsnNear.mono : ∀ a0 a1 a2 a3 a4 a5 a6 k, LeO (stockadelaw02_InsnNear.f k a0 a1 a2 a3 a4 a5 a6) (stockadelaw02_InsnNear.f (k + 1) a0 a1 a2 a3 a4 a5 a6) := by
 intro a0 a1 a2 a3 a4 a5 a6 k
 obtain ⟨ih0, ih1, ih2⟩ := stockadelaw02_InsnNear.mono_l k
 unfold stockadelaw02_InsnNear.f
 repeat' first
   | (with_reducible exact ih0 _ _ _ _ _ _ _ _ _ _ _ _ _ _ _ _)
   | (with_reducible exact ih1 _ _ _ _ _ _ _ _ _ _ _ _ _ _ _ _ _ _ _ _ _)
   | (with_reducible exact ih2 _ _ _ _ _ _ _ _ _ _ _ _ _ _)
   | (with_reducible exact insn_Of.mono _ _ _ _ _ _)
   | (with_reducible exact insn_Places.mono _ _ _ _ _ _)
   | (with_reducible exact insn_Reads.mono _ _ _ _ _ _)
   | (with_reducible exact insn_Writes.mono _ _ _ _ _ _)
   | (with_reducible exact stockadelaw02_wakes.mono _)
   | (with_reducible exact LeO.refl _)
   | (with_reducible exact LeO.none _)
   | (with_reducible refine LeO.ite ?_ ?_)
   | (with_reducible refine LeO.bind ?_ (fun _ => ?_))
   | exact ih0 _ _ _ _ _ _ _ _ _ _ _ _ _ _ _ _
   | exact ih1 _ _ _ _ _ _ _ _ _ _ _ _ _ _ _ _ _ _ _ _ _
   | exact ih2 _ _ _ _ _ _ _ _ _ _ _ _ _ _
   | exact insn_Of.mono _ _ _ _ _ _
   | exact insn_Places.mono _ _ _ _ _ _
   | exact insn_Reads.mono _ _ _ _ _ _
   | exact insn_Writes.mono _ _ _ _ _ _
   | exact stockadelaw02_wakes.mono _
   | exact LeO.none _
   | refine LeO.ite ?_ ?_
   | refine LeO.bind ?_ (fun _ => ?_)
set_option maxHeartbeats 8000000 in
set_option maxRecDepth 100000 in
theorem stockadelaw02_InsnNear.calls (k : Nat) (a0_0 : Int) (a0_1 : Int) (a0_2 : Int) (a0_3 : Int) (a0_4 : Int) (a1 : Int) (a2 : Int) (r : Bool) (w : World) (hrG0 : Kd.C (Kd.int .i64) w (some ⟨0, 0, none⟩) gl0.length gl0) (hr_ : r = true) (h : stockadelaw02_InsnNear.f k a0_0 a0_1 a0_2 a0_3 a0_4 a1 a2 = some r) :
  Calls Tryd.prog 10 #[.agg #[.int .u8 a0_0, .int .u8 a0_1, .int .u8 a0_2, .int .i16 a0_3, .int .i32 a0_4], .int .i16 a1, .int .i32 a2] w fun e w' => e = .returned (.bool r) ∧ Below w.heap.size w w' := by
 have hu24 := Tryd.underlying24
 have hu26 := Tryd.underlying26
 have HRG0 := Aside0.mk hrG0
 clear hrG0
 have HRT := Aside0.mk hr_
 clear hr_
 have HB := Aside0.mk (Below.refl w.heap.size w)
 have H : ((insn_Of.f k a0_0 a0_1 a0_2 a0_3 a0_4).bind fun bt597 => ((insn_Reads.f k a0_0 a0_1 a0_2 a0_3 a0_4).bind fun t604 => ((insn_Writes.f k a0_0 a0_1 a0_2 a0_3 a0_4).bind fun t607 => ((insn_Places.f k a0_0 a0_1 a0_2 a0_3 a0_4).bind fun t608 => (if bt597.2.2.2.2.2 = 0 then (stockadelaw02_InsnNear.l0 k a1 a2 t604 t607 t608 0 a0_0 a0_1 a0_2 a0_3 a0_4 bt597.1 bt597.2.1 bt597.2.2.1 bt597.2.2.2.1 bt597.2.2.2.2.1) else (if (bt597.1 == 0 && (bt597.2.1 == 0 && (bt597.2.2.1 == 0 && (!bt597.2.2.2.1 && (!bt597.2.2.2.2.1))))) = true then (if (t604.length : Int) = 0 then (if t607 = (-1) then (if t608 = 0 then ((stockadelaw02_wakes.f k).bind fun t609 => (some t609)) else (some false)) else (some false)) else (some false)) else (some false))))))) = some r := h
 clear h
 replace H := Option.bind_eq_some_iff.mp H; obtain ⟨⟨t597, t598, t599, t600, t601, t602⟩, A40, H⟩ := H; try dsimp only at H
 have A4 := Aside0.mk A40
 clear A40
 replace H := Option.bind_eq_some_iff.mp H; obtain ⟨t604, A50, H⟩ := H; try dsimp only at H
 have A5 := Aside0.mk A50
 clear A50
 replace H := Option.bind_eq_some_iff.mp H; obtain ⟨t607, A60, H⟩ := H; try dsimp only at H
 have A6 := Aside0.mk A60
 clear A60
 replace H := Option.bind_eq_some_iff.mp H; obtain ⟨t608, A70, H⟩ := H; try dsimp only at H
 have A7 := Aside0.mk A70
 clear A70
 by_cases c8 : t602 = 0
 ·rw [if_pos c8] at H
  have c8b0 : (t602 == 0) = true := beq_iff_eq.mpr c8
  have c8b1 : (t602 != 0) = false := bne_eq_false_iff_eq.mpr c8
  clear c8
  have H' := Aside0.mk H
  clear H
  go_enter Tryd.func10, Tryd.ntmps10
  go_wp2_with (first | ((with_reducible refine gate_dst (N := 3) rfl ?_); (try (refine gate_guard (by rfl) ?_; dsimp only)); refine sh_box 3 #[.int .u8 a0_0, .int .u8 a0_1, .int .u8 a0_2, .int .i16 a0_3, .int .i32 a0_4] 24 ?_; intro gb596 hg w9 hbox hb; have GE596 := sh_z (w := w) hg; replace HB := sh_b (w := w) hb; have BK596 := Aside0.mk (hbox); clear hb hbox hg; have hcz10 := blk_all5 BK596.out) | (go_at_call 12; (with_reducible refine (insn_Of.calls k a0_0 a0_1 a0_2 a0_3 a0_4 t597 t598 t599 t600 t601 t602 _ ?side1 A4.out).mono ?_); (case side1 => repeat (first | exact (Kd.C_below HRG0.out HB.out) | (with_reducible refine Kd.C_alloc ?_ _) | (with_reducible refine Kd.C_drewN ?_ _) | (with_reducible refine Kd.C_drew ?_))); rintro e w11 ⟨rfl, hb⟩; replace BK596 := sh_k BK596 hb; replace HB := sh_b (w := w) hb; (try clear hb); (try clear hb2); (try clear hk); (try clear hi)) | ((with_reducible refine gate_dst (N := 7) rfl ?_); (try (refine gate_guard (by rfl) ?_; dsimp only)); refine sh_box 7 #[.int .i64 0, .int .i64 0, .int .i64 0, .bool false, .bool false] 26 ?_; intro gb603 hg w12 hbox hb; have GE603 := sh_z (w := w) hg; have NB596_603 := sh_n BK596 hg; have NB603_596 := sh_s NB596_603; replace BK596 := sh_k BK596 hb; replace HB := sh_b (w := w) hb; have BK603 := Aside0.mk (hbox); clear hb hbox hg; have hnb13 := NB603_596.out; have hnc13 := NB596_603.out; have hcz14 := blk_all5 BK603.out; have hcz15 := blk_all5 BK596.out) | (go_at_call 24; (with_reducible refine (insn_Reads.calls k a0_0 a0_1 a0_2 a0_3 a0_4 t604 _ ?side1 A5.out).mono ?_); (case side1 => exact Kd.C_below HRG0.out b_now); rintro e w16 ⟨v605, rfl, ho0, hb⟩; have HO606 := Aside0.mk (Kd.R_lower ho0 (below_size b_now)); replace BK596 := sh_kp (g := gb596) (t := 24) #[.int .u8 a0_0, .int .u8 a0_1, .int .u8 a0_2, .int .i16 a0_3, .int .i32 a0_4] hb; replace BK603 := sh_kp (g := gb603) (t := 26) #[.int .i64 t597, .int .i64 t598, .int .i64 t599, .bool t600, .bool t601] hb; replace HB := sh_b (w := w) hb; (try clear hb); (try clear hb2); (try clear hk); (try clear hi); (try clear ho0); have hcz17 := blk_all5 BK596.out) | (go_at_call 26; (with_reducible refine (insn_Writes.calls k a0_0 a0_1 a0_2 a0_3 a0_4 t607 _ ?side1 A6.out).mono ?_); (case side1 => repeat (first | exact (Kd.C_below HRG0.out HB.out) | (with_reducible refine Kd.C_alloc ?_ _) | (with_reducible refine Kd.C_drewN ?_ _) | (with_reducible refine Kd.C_drew ?_))); rintro e w18 ⟨rfl, hb⟩; replace HO606 := Aside0.mk (Kd.R_below (by (with_reducible repeat (first | apply Kd.R_alloc | apply Kd.R_drewN | apply Kd.R_drew)); exact HO606.out) hb); replace BK596 := sh_k BK596 hb; replace BK603 := sh_k BK603 hb; replace HB := sh_b (w := w) hb; (try clear hb); (try clear hb2); (try clear hk); (try clear hi); have hcz19 := blk_all5 BK596.out) | (go_at_call 28; (with_reducible refine (insn_Places.calls k a0_0 a0_1 a0_2 a0_3 a0_4 t608 _ ?side1 A7.out).mono ?_); (case side1 => repeat (first | exact (Kd.C_below HRG0.out HB.out) | (with_reducible refine Kd.C_alloc ?_ _) | (with_reducible refine Kd.C_drewN ?_ _) | (with_reducible refine Kd.C_drew ?_))); rintro e w20 ⟨rfl, hb⟩; replace HO606 := Aside0.mk (Kd.R_below (by (with_reducible repeat (first | apply Kd.R_alloc | apply Kd.R_drewN | apply Kd.R_drew)); exact HO606.out) hb); replace BK596 := sh_k BK596 hb; replace BK603 := sh_k BK603 hb; replace HB := sh_b (w := w) hb; (try clear hb); (try clear hb2); (try clear hk); (try clear hi)))
  repeat (go_quiet (first | ((with_reducible refine gate_dst (N := 3) rfl ?_); (try (refine gate_guard (by rfl) ?_; dsimp only)); refine sh_box 3 #[.int .u8 a0_0, .int .u8 a0_1, .int .u8 a0_2, .int .i16 a0_3, .int .i32 a0_4] 24 ?_; intro gb596 hg w9 hbox hb; have GE596 := sh_z (w := w) hg; replace HB := sh_b (w := w) hb; have BK596 := Aside0.mk (hbox); clear hb hbox hg; have hcz10 := blk_all5 BK596.out) | (go_at_call 12; (with_reducible refine (insn_Of.calls k a0_0 a0_1 a0_2 a0_3 a0_4 t597 t598 t599 t600 t601 t602 _ ?side1 A4.out).mono ?_); (case side1 => repeat (first | exact (Kd.C_below HRG0.out HB.out) | (with_reducible refine Kd.C_alloc ?_ _) | (with_reducible refine Kd.C_drewN ?_ _) | (with_reducible refine Kd.C_drew ?_))); rintro e w11 ⟨rfl, hb⟩; replace BK596 := sh_k BK596 hb; replace HB := sh_b (w := w) hb; (try clear hb); (try clear hb2); (try clear hk); (try clear hi)) | ((with_reducible refine gate_dst (N := 7) rfl ?_); (try (refine gate_guard (by rfl) ?_; dsimp only)); refine sh_box 7 #[.int .i64 0, .int .i64 0, .int .i64 0, .bool false, .bool false] 26 ?_; intro gb603 hg w12 hbox hb; have GE603 := sh_z (w := w) hg; have NB596_603 := sh_n BK596 hg; have NB603_596 := sh_s NB596_603; replace BK596 := sh_k BK596 hb; replace HB := sh_b (w := w) hb; have BK603 := Aside0.mk (hbox); clear hb hbox hg; have hnb13 := NB603_596.out; have hnc13 := NB596_603.out; have hcz14 := blk_all5 BK603.out; have hcz15 := blk_all5 BK596.out) | (go_at_call 24; (with_reducible refine (insn_Reads.calls k a0_0 a0_1 a0_2 a0_3 a0_4 t604 _ ?side1 A5.out).mono ?_); (case side1 => exact Kd.C_below HRG0.out b_now); rintro e w16 ⟨v605, rfl, ho0, hb⟩; have HO606 := Aside0.mk (Kd.R_lower ho0 (below_size b_now)); replace BK596 := sh_kp (g := gb596) (t := 24) #[.int .u8 a0_0, .int .u8 a0_1, .int .u8 a0_2, .int .i16 a0_3, .int .i32 a0_4] hb; replace BK603 := sh_kp (g := gb603) (t := 26) #[.int .i64 t597, .int .i64 t598, .int .i64 t599, .bool t600, .bool t601] hb; replace HB := sh_b (w := w) hb; (try clear hb); (try clear hb2); (try clear hk); (try clear hi); (try clear ho0); have hcz17 := blk_all5 BK596.out) | (go_at_call 26; (with_reducible refine (insn_Writes.calls k a0_0 a0_1 a0_2 a0_3 a0_4 t607 _ ?side1 A6.out).mono ?_); (case side1 => repeat (first | exact (Kd.C_below HRG0.out HB.out) | (with_reducible refine Kd.C_alloc ?_ _) | (with_reducible refine Kd.C_drewN ?_ _) | (with_reducible refine Kd.C_drew ?_))); rintro e w18 ⟨rfl, hb⟩; replace HO606 := Aside0.mk (Kd.R_below (by (with_reducible repeat (first | apply Kd.R_alloc | apply Kd.R_drewN | apply Kd.R_drew)); exact HO606.out) hb); replace BK596 := sh_k BK596 hb; replace BK603 := sh_k BK603 hb; replace HB := sh_b (w := w) hb; (try clear hb); (try clear hb2); (try clear hk); (try clear hi); have hcz19 := blk_all5 BK596.out) | (go_at_call 28; (with_reducible refine (insn_Places.calls k a0_0 a0_1 a0_2 a0_3 a0_4 t608 _ ?side1 A7.out).mono ?_); (case side1 => repeat (first | exact (Kd.C_below HRG0.out HB.out) | (with_reducible refine Kd.C_alloc ?_ _) | (with_reducible refine Kd.C_drewN ?_ _) | (with_reducible refine Kd.C_drew ?_))); rintro e w20 ⟨rfl, hb⟩; replace HO606 := Aside0.mk (Kd.R_below (by (with_reducible repeat (first | apply Kd.R_alloc | apply Kd.R_drewN | apply Kd.R_drew)); exact HO606.out) hb); replace BK596 := sh_k BK596 hb; replace BK603 := sh_k BK603 hb; replace HB := sh_b (w := w) hb; (try clear hb); (try clear hb2); (try clear hk); (try clear hi))); try go_wp2_with (first | ((with_reducible refine gate_dst (N := 3) rfl ?_); (try (refine gate_guard (by rfl) ?_; dsimp only)); refine sh_box 3 #[.int .u8 a0_0, .int .u8 a0_1, .int .u8 a0_2, .int .i16 a0_3, .int .i32 a0_4] 24 ?_; intro gb596 hg w9 hbox hb; have GE596 := sh_z (w := w) hg; replace HB := sh_b (w := w) hb; have BK596 := Aside0.mk (hbox); clear hb hbox hg; have hcz10 := blk_all5 BK596.out) | (go_at_call 12; (with_reducible refine (insn_Of.calls k a0_0 a0_1 a0_2 a0_3 a0_4 t597 t598 t599 t600 t601 t602 _ ?side1 A4.out).mono ?_); (case side1 => repeat (first | exact (Kd.C_below HRG0.out HB.out) | (with_reducible refine Kd.C_alloc ?_ _) | (with_reducible refine Kd.C_drewN ?_ _) | (with_reducible refine Kd.C_drew ?_))); rintro e w11 ⟨rfl, hb⟩; replace BK596 := sh_k BK596 hb; replace HB := sh_b (w := w) hb; (try clear hb); (try clear hb2); (try clear hk); (try clear hi)) | ((with_reducible refine gate_dst (N := 7) rfl ?_); (try (refine gate_guard (by rfl) ?_; dsimp only)); refine sh_box 7 #[.int .i64 0, .int .i64 0, .int .i64 0, .bool false, .bool false] 26 ?_; intro gb603 hg w12 hbox hb; have GE603 := sh_z (w := w) hg; have NB596_603 := sh_n BK596 hg; have NB603_596 := sh_s NB596_603; replace BK596 := sh_k BK596 hb; replace HB := sh_b (w := w) hb; have BK603 := Aside0.mk (hbox); clear hb hbox hg; have hnb13 := NB603_596.out; have hnc13 := NB596_603.out; have hcz14 := blk_all5 BK603.out; have hcz15 := blk_all5 BK596.out) | (go_at_call 24; (with_reducible refine (insn_Reads.calls k a0_0 a0_1 a0_2 a0_3 a0_4 t604 _ ?side1 A5.out).mono ?_); (case side1 => exact Kd.C_below HRG0.out b_now); rintro e w16 ⟨v605, rfl, ho0, hb⟩; have HO606 := Aside0.mk (Kd.R_lower ho0 (below_size b_now)); replace BK596 := sh_kp (g := gb596) (t := 24) #[.int .u8 a0_0, .int .u8 a0_1, .int .u8 a0_2, .int .i16 a0_3, .int .i32 a0_4] hb; replace BK603 := sh_kp (g := gb603) (t := 26) #[.int .i64 t597, .int .i64 t598, .int .i64 t599, .bool t600, .bool t601] hb; replace HB := sh_b (w := w) hb; (try clear hb); (try clear hb2); (try clear hk); (try clear hi); (try clear ho0); have hcz17 := blk_all5 BK596.out) | (go_at_call 26; (with_reducible refine (insn_Writes.calls k a0_0 a0_1 a0_2 a0_3 a0_4 t607 _ ?side1 A6.out).mono ?_); (case side1 => repeat (first | exact (Kd.C_below HRG0.out HB.out) | (with_reducible refine Kd.C_alloc ?_ _) | (with_reducible refine Kd.C_drewN ?_ _) | (with_reducible refine Kd.C_drew ?_))); rintro e w18 ⟨rfl, hb⟩; replace HO606 := Aside0.mk (Kd.R_below (by (with_reducible repeat (first | apply Kd.R_alloc | apply Kd.R_drewN | apply Kd.R_drew)); exact HO606.out) hb); replace BK596 := sh_k BK596 hb; replace BK603 := sh_k BK603 hb; replace HB := sh_b (w := w) hb; (try clear hb); (try clear hb2); (try clear hk); (try clear hi); have hcz19 := blk_all5 BK596.out) | (go_at_call 28; (with_reducible refine (insn_Places.calls k a0_0 a0_1 a0_2 a0_3 a0_4 t608 _ ?side1 A7.out).mono ?_); (case side1 => repeat (first | exact (Kd.C_below HRG0.out HB.out) | (with_reducible refine Kd.C_alloc ?_ _) | (with_reducible refine Kd.C_drewN ?_ _) | (with_reducible refine Kd.C_drew ?_))); rintro e w20 ⟨rfl, hb⟩; replace HO606 := Aside0.mk (Kd.R_below (by (with_reducible repeat (first | apply Kd.R_alloc | apply Kd.R_drewN | apply Kd.R_drew)); exact HO606.out) hb); replace BK596 := sh_k BK596 hb; replace BK603 := sh_k BK603 hb; replace HB := sh_b (w := w) hb; (try clear hb); (try clear hb2); (try clear hk); (try clear hi))))
  go_loopg [12] k (fun kq v12 w' => ∃ (x12_1 : Int), v12 = .int .i64 x12_1 ∧ Aside0 (stockadelaw02_InsnNear.l0 kq a1 a2 t604 t607 t608 x12_1 a0_0 a0_1 a0_2 a0_3 a0_4 t597 t598 t599 t600 t601 = some r) ∧ Aside0 (kq ≤ k) ∧ Aside0 (Kd.R (Kd.int .i64) 3 w' w.heap.size (fun _ => True) v605 t604) ∧ Aside0 (w'.heap[gb596]? = some (.cells #[.int .u8 a0_0, .int .u8 a0_1, .int .u8 a0_2, .int .i16 a0_3, .int .i32 a0_4] 24 (0, 0))) ∧ Aside0 (w'.heap[gb603]? = some (.cells #[.int .i64 t597, .int .i64 t598, .int .i64 t599, .bool t600, .bool t601] 26 (0, 0))) ∧ Aside0 (Below w.heap.size w w'))
  case atStart => exact ⟨(0), eq_now, H', ⟨Nat.le_refl _⟩, ⟨by (with_reducible repeat (first | apply Kd.R_alloc | apply Kd.R_drewN | apply Kd.R_drew)); exact HO606.out⟩, ⟨bk_now⟩, ⟨bk_now⟩, ⟨b_now⟩⟩
  case round =>
   clear H'
   try clear c1
   try clear p2
   try clear c8
   try clear c8b0
   try clear c8b1
   try clear c10
   try clear c13
   try clear hcz10
   try clear hcz14
   try clear hcz15
   try clear hcz17
   try clear hcz19
   obtain ⟨x12_1, rfl, HA, HK1, HO_9, BK596, BK603, HB⟩ := hrel
   cases gk with
   | zero => exact absurd HA.out (by simp [stockadelaw02_InsnNear.l0])
   | succ k1 =>
    have H := HA.out
    clear HA
    simp only [stockadelaw02_InsnNear.l0] at H
    by_cases c21 : x12_1 < (t604.length : Int)
    ·rw [if_pos c21] at H
     have c21b0 : decide (x12_1 < (t604.length : Int)) = true := decide_eq_true c21
     clear c21
     by_cases c22 : 0 ≤ x12_1
     ·rw [if_pos c22] at H
      have c22b0 : decide (0 ≤ x12_1) = true := decide_eq_true c22
      clear c22
      by_cases c23 : (rd t604 x12_1) < 0
      ·rw [if_pos c23] at H
       have c23b0 : decide ((rd t604 x12_1) < 0) = true := decide_eq_true c23
       clear c23
       obtain rfl := Option.some.inj H
       exact absurd HRT.out (by simp)
      ·rw [if_neg c23] at H
       have c23b0 : decide ((rd t604 x12_1) < 0) = false := decide_eq_false c23
       clear c23
       by_cases c24 : (rd t604 x12_1) > 10
       ·rw [if_pos c24] at H
        have c24b0 : decide (10 < (rd t604 x12_1)) = true := decide_eq_true c24
        clear c24
        obtain rfl := Option.some.inj H
        exact absurd HRT.out (by simp)
       ·rw [if_neg c24] at H
        have c24b0 : decide (10 < (rd t604 x12_1)) = false := decide_eq_false c24
        clear c24
        by_cases c25 : x12_1 > 0
        ·rw [if_pos c25] at H
         have c25b0 : decide (0 < x12_1) = true := decide_eq_true c25
         clear c25
         obtain ⟨ji26, hji26⟩ : ∃ j_ : Int, (wrap64 (x12_1 - 1)) = j_ := ⟨_, rfl⟩
         replace H : (if 0 ≤ (ji26) then (if (ji26) < (t604.length : Int) then (if (rd t604 x12_1) ≤ (rd t604 (ji26)) then (some false) else (stockadelaw02_InsnNear.l0 k1 a1 a2 t604 t607 t608 (wrap64 (x12_1 + 1)) a0_0 a0_1 a0_2 a0_3 a0_4 t597 t598 t599 t600 t601)) else (none)) else (none)) = some r := by first | (rw [hji26] at H; exact H) | (simp only [hji26] at H ⊢; exact H)
         have hji26w : (IntKind.i64.wrap (x12_1 - 1)) = ji26 := (i64_w _).trans hji26
         by_cases c27 : 0 ≤ (ji26)
         ·rw [if_pos c27] at H
          have c27b0 : decide (0 ≤ (ji26)) = true := decide_eq_true c27
          clear c27
          by_cases c28 : (ji26) < (t604.length : Int)
          ·rw [if_pos c28] at H
           have c28b0 : decide ((ji26) < (t604.length : Int)) = true := decide_eq_true c28
           clear c28
           by_cases c29 : (rd t604 x12_1) ≤ (rd t604 (ji26))
           ·rw [if_pos c29] at H
            have c29b0 : decide ((rd t604 x12_1) ≤ (rd t604 (ji26))) = true := decide_eq_true c29
            clear c29
            obtain rfl := Option.some.inj H
            exact absurd HRT.out (by simp)
           ·rw [if_neg c29] at H
            have c29b0 : decide ((rd t604 x12_1) ≤ (rd t604 (ji26))) = false := decide_eq_false c29
            clear c29
            have H' := Aside0.mk H
            clear H
            obtain ⟨Ao30, co30, eo30⟩ := Kd.R_slice HO_9.out
            subst eo30
            have p610 : 0 ≤ (x12_1 : Int) := of_decide_eq_true (by first | (with_reducible assumption) | assumption)
            have q610 : x12_1 < (t604.length : Int) := of_decide_eq_true (by first | (with_reducible assumption) | assumption)
            obtain ⟨ad610, e610, hx610_0⟩ := Kd.at_int (Kd.R_reads' HO_9.out).2.2 x12_1 p610 q610
            cases e610
            replace p610 := eq_true p610
            replace q610 := eq_true q610
            have p611 : 0 ≤ (x12_1 : Int) := of_decide_eq_true (by first | (with_reducible assumption) | assumption)
            have q611 : x12_1 < (t604.length : Int) := of_decide_eq_true (by first | (with_reducible assumption) | assumption)
            obtain ⟨ad611, e611, hx611_0⟩ := Kd.at_int (Kd.R_reads' HO_9.out).2.2 x12_1 p611 q611
            obtain rfl : ad610 = ad611 := (by injection e611)
            replace p611 := eq_true p611
            replace q611 := eq_true q611
            have p612 : 0 ≤ (x12_1 : Int) := of_decide_eq_true (by first | (with_reducible assumption) | assumption)
            have q612 : x12_1 < (t604.length : Int) := of_decide_eq_true (by first | (with_reducible assumption) | assumption)
            obtain ⟨ad612, e612, hx612_0⟩ := Kd.at_int (Kd.R_reads' HO_9.out).2.2 x12_1 p612 q612
            obtain rfl : ad610 = ad612 := (by injection e612)
            replace p612 := eq_true p612
            replace q612 := eq_true q612
            have p613 : 0 ≤ ((ji26) : Int) := of_decide_eq_true (by first | (with_reducible assumption) | assumption)
            have q613 : (ji26) < (t604.length : Int) := of_decide_eq_true (by first | (with_reducible assumption) | assumption)
            obtain ⟨ad613, e613, hx613_0⟩ := Kd.at_int (Kd.R_reads' HO_9.out).2.2 (ji26) p613 q613
            obtain rfl : ad610 = ad613 := (by injection e613)
            replace p613 := eq_true p613
            replace q613 := eq_true q613
            go_wp2
            repeat (go_quiet (fail); try go_wp2)
            go_roundg k1
            case measure => have := HK1.out; omega
            case rel => exact ⟨(wrap64 (x12_1 + 1)), eq_now, H', ⟨by have := HK1.out; omega⟩, ⟨by (with_reducible repeat (first | apply Kd.R_alloc | apply Kd.R_drewN | apply Kd.R_drew)); exact HO_9.out⟩, ⟨bk_now⟩, ⟨bk_now⟩, ⟨b_now⟩⟩
          ·rw [if_neg c28] at H
           exact absurd H (by simp)
         ·rw [if_neg c27] at H
          exact absurd H (by simp)
        ·rw [if_neg c25] at H
         have c25b0 : decide (0 < x12_1) = false := decide_eq_false c25
         clear c25
         have H' := Aside0.mk H
         clear H
         obtain ⟨Ao31, co31, eo31⟩ := Kd.R_slice HO_9.out
         subst eo31
         have p610 : 0 ≤ (x12_1 : Int) := of_decide_eq_true (by first | (with_reducible assumption) | assumption)
         have q610 : x12_1 < (t604.length : Int) := of_decide_eq_true (by first | (with_reducible assumption) | assumption)
         obtain ⟨ad610, e610, hx610_0⟩ := Kd.at_int (Kd.R_reads' HO_9.out).2.2 x12_1 p610 q610
         cases e610
         replace p610 := eq_true p610
         replace q610 := eq_true q610
         have p611 : 0 ≤ (x12_1 : Int) := of_decide_eq_true (by first | (with_reducible assumption) | assumption)
         have q611 : x12_1 < (t604.length : Int) := of_decide_eq_true (by first | (with_reducible assumption) | assumption)
         obtain ⟨ad611, e611, hx611_0⟩ := Kd.at_int (Kd.R_reads' HO_9.out).2.2 x12_1 p611 q611
         obtain rfl : ad610 = ad611 := (by injection e611)
         replace p611 := eq_true p611
         replace q611 := eq_true q611
         go_wp2
         repeat (go_quiet (fail); try go_wp2)
         go_roundg k1
         case measure => have := HK1.out; omega
         case rel => exact ⟨(wrap64 (x12_1 + 1)), eq_now, H', ⟨by have := HK1.out; omega⟩, ⟨by (with_reducible repeat (first | apply Kd.R_alloc | apply Kd.R_drewN | apply Kd.R_drew)); exact HO_9.out⟩, ⟨bk_now⟩, ⟨bk_now⟩, ⟨b_now⟩⟩
     ·rw [if_neg c22] at H
      exact absurd H (by simp)
    ·rw [if_neg c21] at H
     have c21b0 : decide (x12_1 < (t604.length : Int)) = false := decide_eq_false c21
     clear c21
     replace H := Option.bind_eq_some_iff.mp H; obtain ⟨⟨t615, t616, t617, t618, t619, t620⟩, A320, H⟩ := H; try dsimp only at H
     have A32 := Aside0.mk A320
     clear A320
     have HC33 := Aside0.mk H
     clear H
     obtain ⟨Ao34, co34, eo34⟩ := Kd.R_slice HO_9.out
     subst eo34
     clear HO_9
     have hnb35 := NB596_603.out
     have hnc35 := NB603_596.out
     have hcz36 := blk_all5 BK596.out
     go_upto_region 13 with (((with_reducible refine gate_dst (N := 13) rfl ?_); (try (refine gate_guard (by rfl) ?_; dsimp only)); refine sh_box 13 #[.int .u8 0, .int .u8 0, .int .u8 0, .int .i16 0, .int .i32 0] 24 ?_; intro gb614 hg w37 hbox hb; have GE614 := sh_z (w := w) hg; have NB596_614 := sh_n BK596 hg; have NB603_614 := sh_n BK603 hg; have NB614_596 := sh_s NB596_614; have NB614_603 := sh_s NB603_614; replace BK596 := sh_k BK596 hb; replace BK603 := sh_k BK603 hb; replace HB := sh_b (w := w) hb; have BK614 := Aside0.mk (hbox); clear hb hbox hg; have hnb38 := NB614_596.out; have hnc38 := NB596_614.out; have hnb39 := NB614_603.out; have hnc39 := NB603_614.out; have hcz40 := blk_all5 BK614.out))
     go_upto_region 14 with (fail)
     refine sh_gen (fun wg => Aside0 (wg.heap[gb596]? = some (.cells #[.int .u8 a0_0, .int .u8 a0_1, .int .u8 a0_2, .int .i16 a0_3, .int .i32 a0_4] 24 (0, 0))) ∧ Aside0 (wg.heap[gb603]? = some (.cells #[.int .i64 t597, .int .i64 t598, .int .i64 t599, .bool t600, .bool t601] 26 (0, 0))) ∧ Aside0 (wg.heap[gb614]? = some (.cells #[.int .u8 a0_0, .int .u8 a0_1, .int .u8 a0_2, .int .i16 a1, .int .i32 a0_4] 24 (0, 0))) ∧ Aside0 (Below w.heap.size w wg)) ⟨⟨bk_now⟩, ⟨bk_now⟩, ⟨bk_now⟩, ⟨b_now⟩⟩ ?_
     clear BK596 BK603 BK614 HB hcz36 hcz40
     rintro wg ⟨BK596, BK603, BK614, HB⟩
     have hcz40 := blk_all5 BK614.out
     go_upto_region 15 with (first | (go_at_call 12; (with_reducible refine (insn_Of.calls k1 a0_0 a0_1 a0_2 a1 a0_4 t615 t616 t617 t618 t619 t620 _ ?side1 A32.out).mono ?_); (case side1 => exact Kd.C_below HRG0.out b_now); rintro e w41 ⟨rfl, hb⟩; replace BK596 := sh_kp (g := gb596) (t := 24) #[.int .u8 a0_0, .int .u8 a0_1, .int .u8 a0_2, .int .i16 a0_3, .int .i32 a0_4] hb; replace BK603 := sh_kp (g := gb603) (t := 26) #[.int .i64 t597, .int .i64 t598, .int .i64 t599, .bool t600, .bool t601] hb; replace BK614 := sh_kp (g := gb614) (t := 24) #[.int .u8 a0_0, .int .u8 a0_1, .int .u8 a0_2, .int .i16 a1, .int .i32 a0_4] hb; replace HB := sh_b (w := w) hb; (try clear hb); (try clear hb2); (try clear hk); (try clear hi)) | ((with_reducible refine gate_dst (N := 14) rfl ?_); (try (refine gate_guard (by rfl) ?_; dsimp only)); refine sh_box 14 #[.int .i64 0, .int .i64 0, .int .i64 0, .bool false, .bool false] 26 ?_; intro gb621 hg w42 hbox hb; have GE621 := sh_z (w := w) hg; have NB596_621 := sh_n BK596 hg; have NB603_621 := sh_n BK603 hg; have NB614_621 := sh_n BK614 hg; have NB621_596 := sh_s NB596_621; have NB621_603 := sh_s NB603_621; have NB621_614 := sh_s NB614_621; replace BK596 := sh_k BK596 hb; replace BK603 := sh_k BK603 hb; replace BK614 := sh_k BK614 hb; replace HB := sh_b (w := w) hb; have BK621 := Aside0.mk (hbox); clear hb hbox hg; have hnb43 := NB621_596.out; have hnc43 := NB596_621.out; have hnb44 := NB621_603.out; have hnc44 := NB603_621.out; have hnb45 := NB621_614.out; have hnc45 := NB614_621.out; have hcz46 := blk_all5 BK621.out))
     (try simp only [Act.put, List.setIfInBounds_toArray, List.set_cons_zero, List.set_cons_succ])
     go_cut [113] (fun v113 wc => ∃ (kq : Nat) (x113_32 : Bool), v113 = .bool x113_32 ∧ Aside0 (stockadelaw02_InsnNear.j1 kq a1 a2 t607 t608 t620 x113_32 a0_0 a0_1 a0_2 a0_3 a0_4 t597 t598 t599 t600 t601 t615 t616 t617 t618 t619 = some r) ∧ Aside0 (kq ≤ k1) ∧ Aside0 (wc.heap[gb596]? = some (.cells #[.int .u8 a0_0, .int .u8 a0_1, .int .u8 a0_2, .int .i16 a0_3, .int .i32 a0_4] 24 (0, 0))) ∧ Aside0 (wc.heap[gb603]? = some (.cells #[.int .i64 t597, .int .i64 t598, .int .i64 t599, .bool t600, .bool t601] 26 (0, 0))) ∧ Aside0 (wc.heap[gb614]? = some (.cells #[.int .u8 a0_0, .int .u8 a0_1, .int .u8 a0_2, .int .i16 a1, .int .i32 a0_4] 24 (0, 0))) ∧ Aside0 (wc.heap[gb621]? = some (.cells #[.int .i64 t615, .int .i64 t616, .int .i64 t617, .bool t618, .bool t619] 26 (0, 0))) ∧ Aside0 (Below w.heap.size w wc))
     case first =>
      have H := HC33.out
      clear HC33
      by_cases c47 : t597 = 3
      ·rw [if_pos c47] at H
       have c47b0 : (t597 == 3) = true := beq_iff_eq.mpr c47
       have c47b1 : (t597 != 3) = false := bne_eq_false_iff_eq.mpr c47
       clear c47
       (first | rw [c47b0] | (simp only [i64_w, i32_w]; rw [c47b0]) | skip)
       have H' := Aside0.mk H
       clear H
       have hnb48 := NB603_596.out
       have hnc48 := NB596_603.out
       have hnb49 := NB603_614.out
       have hnc49 := NB614_603.out
       have hnb50 := NB603_621.out
       have hnc50 := NB621_603.out
       have hcz51 := blk_all5 BK603.out
       go_wp2
       repeat (go_quiet (fail); try go_wp2)
       go_meet
       case rel => exact ⟨_, (true), eq_now, H', ⟨by have := HK1.out; first | omega | exact Nat.le_refl _⟩, ⟨bk_now⟩, ⟨bk_now⟩, ⟨bk_now⟩, ⟨bk_now⟩, ⟨b_now⟩⟩
      ·rw [if_neg c47] at H
       have c47b0 : (t597 == 3) = false := beq_eq_false_iff_ne.mpr c47
       have c47b1 : (t597 != 3) = true := bne_iff_ne.mpr c47
       (first | rw [c47b0] | (simp only [i64_w, i32_w]; rw [c47b0]) | skip)
       by_cases c52 : t597 = 4
       ·rw [if_pos c52] at H
        have c52b0 : (t597 == 4) = true := beq_iff_eq.mpr c52
        have c52b1 : (t597 != 4) = false := bne_eq_false_iff_eq.mpr c52
        clear c52
        have H' := Aside0.mk H
        clear H
        have hnb53 := NB603_596.out
        have hnc53 := NB596_603.out
        have hnb54 := NB603_614.out
        have hnc54 := NB614_603.out
        have hnb55 := NB603_621.out
        have hnc55 := NB621_603.out
        have hcz56 := blk_all5 BK603.out
        go_wp2
        repeat (go_quiet (fail); try go_wp2)
        go_meet
        case rel => exact ⟨_, (true), eq_now, H', ⟨by have := HK1.out; first | omega | exact Nat.le_refl _⟩, ⟨bk_now⟩, ⟨bk_now⟩, ⟨bk_now⟩, ⟨bk_now⟩, ⟨b_now⟩⟩
       ·rw [if_neg c52] at H
        have c52b0 : (t597 == 4) = false := beq_eq_false_iff_ne.mpr c52
        have c52b1 : (t597 != 4) = true := bne_iff_ne.mpr c52
        by_cases c57 : t597 = 5
        ·rw [if_pos c57] at H
         have c57b0 : (t597 == 5) = true := beq_iff_eq.mpr c57
         have c57b1 : (t597 != 5) = false := bne_eq_false_iff_eq.mpr c57
         clear c57
         have H' := Aside0.mk H
         clear H
         have hnb58 := NB603_596.out
         have hnc58 := NB596_603.out
         have hnb59 := NB603_614.out
         have hnc59 := NB614_603.out
         have hnb60 := NB603_621.out
         have hnc60 := NB621_603.out
         have hcz61 := blk_all5 BK603.out
         go_wp2
         repeat (go_quiet (fail); try go_wp2)
         go_meet
         case rel => exact ⟨_, (true), eq_now, H', ⟨by have := HK1.out; first | omega | exact Nat.le_refl _⟩, ⟨bk_now⟩, ⟨bk_now⟩, ⟨bk_now⟩, ⟨bk_now⟩, ⟨b_now⟩⟩
        ·rw [if_neg c57] at H
         have c57b0 : (t597 == 5) = false := beq_eq_false_iff_ne.mpr c57
         have c57b1 : (t597 != 5) = true := bne_iff_ne.mpr c57
         by_cases c62 : t597 = 6
         ·rw [if_pos c62] at H
          have c62b0 : (t597 == 6) = true := beq_iff_eq.mpr c62
          have c62b1 : (t597 != 6) = false := bne_eq_false_iff_eq.mpr c62
          clear c62
          have H' := Aside0.mk H
          clear H
          have hnb63 := NB603_596.out
          have hnc63 := NB596_603.out
          have hnb64 := NB603_614.out
          have hnc64 := NB614_603.out
          have hnb65 := NB603_621.out
          have hnc65 := NB621_603.out
          have hcz66 := blk_all5 BK603.out
          go_wp2
          repeat (go_quiet (fail); try go_wp2)
          go_meet
          case rel => exact ⟨_, (true), eq_now, H', ⟨by have := HK1.out; first | omega | exact Nat.le_refl _⟩, ⟨bk_now⟩, ⟨bk_now⟩, ⟨bk_now⟩, ⟨bk_now⟩, ⟨b_now⟩⟩
         ·rw [if_neg c62] at H
          have c62b0 : (t597 == 6) = false := beq_eq_false_iff_ne.mpr c62
          have c62b1 : (t597 != 6) = true := bne_iff_ne.mpr c62
          have H' := Aside0.mk H
          clear H
          have hnb67 := NB603_596.out
          have hnc67 := NB596_603.out
          have hnb68 := NB603_614.out
          have hnc68 := NB614_603.out
          have hnb69 := NB603_621.out
          have hnc69 := NB621_603.out
          have hcz70 := blk_all5 BK603.out
          go_wp2
          repeat (go_quiet (fail); try go_wp2)
          go_meet
          case rel => exact ⟨_, ((t597 == 7)), eq_now, H', ⟨by have := HK1.out; first | omega | exact Nat.le_refl _⟩, ⟨bk_now⟩, ⟨bk_now⟩, ⟨bk_now⟩, ⟨bk_now⟩, ⟨b_now⟩⟩
     case rest =>
      clear HC33
      try clear c1
      try clear c2
      try clear p2
      try clear c3
      try clear c4
      try clear c5
      try clear c6
      try clear p6
      try clear q6
      try clear hx6
      try clear c8
      try clear c8b0
      try clear c8b1
      try clear c10
      try clear c13
      try clear c21
      try clear c21b0
      try clear c22
      try clear c22b0
      try clear c23
      try clear c23b0
      try clear c24
      try clear c24b0
      try clear c25
      try clear c25b0
      try clear c27
      try clear c27b0
      try clear c28
      try clear c28b0
      try clear c29
      try clear c29b0
      try clear c35
      try clear c38
      try clear c39
      try clear c43
      try clear c44
      try clear c45
      try clear c47
      try clear c47b0
      try clear c47b1
      try clear c48
      try clear c49
      try clear c50
      try clear c52
      try clear c52b0
      try clear c52b1
      try clear c53
      try clear c54
      try clear c55
      try clear c57
      try clear c57b0
      try clear c57b1
      try clear c58
      try clear c59
      try clear c60
      try clear p61
      try clear q61
      try clear hx61
      try clear c62
      try clear c62b0
      try clear c62b1
      try clear c63
      try clear c64
      try clear p64
      try clear c65
      try clear c67
      try clear c68
      try clear c69
      try clear hcz10
      try clear hcz14
      try clear hcz15
      try clear hcz17
      try clear hcz19
      try clear hcz36
      try clear hcz40
      try clear hcz46
      try clear hcz51
      try clear hcz56
      try clear hcz61
      try clear hcz66
      try clear hcz70
      try clear hx610_0
      try clear hx611_0
      try clear hx612_0
      try clear hx613_0
      try clear p2
      try clear p610
      try clear p611
      try clear p612
      try clear p613
      try clear q610
      try clear q611
      try clear q612
      try clear q613
      obtain ⟨kq, x113_32, rfl, HA, HJ32, BK596, BK603, BK614, BK621, HB⟩ := hcut
      cases kq with
      | zero => exact absurd HA.out (by simp [stockadelaw02_InsnNear.j1])
      | succ kj32 =>
       have H := HA.out
       clear HA
       simp only [stockadelaw02_InsnNear.j1] at H
       by_cases c71 : x113_32 = true
       ·subst c71
        replace H := sh_t H
        have HC72 := Aside0.mk H
        clear H
        go_upto_region 16 with (fail)
        repeat (go_quiet (fail); go_upto_region 16 with (fail))
        go_cut [120] (fun v120 wc => ∃ (kq : Nat) (x120_71 : Bool), v120 = .bool x120_71 ∧ Aside0 (stockadelaw02_InsnNear.j2 kq a2 t607 t608 x120_71 a0_0 a0_1 a0_2 a0_3 a0_4 t597 t598 t599 t600 t601 = some r) ∧ Aside0 (kq ≤ kj32) ∧ Aside0 (wc.heap[gb596]? = some (.cells #[.int .u8 a0_0, .int .u8 a0_1, .int .u8 a0_2, .int .i16 a0_3, .int .i32 a0_4] 24 (0, 0))) ∧ Aside0 (wc.heap[gb603]? = some (.cells #[.int .i64 t597, .int .i64 t598, .int .i64 t599, .bool t600, .bool t601] 26 (0, 0))) ∧ Aside0 (wc.heap[gb614]? = some (.cells #[.int .u8 a0_0, .int .u8 a0_1, .int .u8 a0_2, .int .i16 a1, .int .i32 a0_4] 24 (0, 0))) ∧ Aside0 (wc.heap[gb621]? = some (.cells #[.int .i64 t615, .int .i64 t616, .int .i64 t617, .bool t618, .bool t619] 26 (0, 0))) ∧ Aside0 (Below w.heap.size w wc))
        case first =>
         have H := HC72.out
         clear HC72
         by_cases c73 : t620 = 0
         ·rw [if_pos c73] at H
          have c73b0 : (t620 == 0) = true := beq_iff_eq.mpr c73
          have c73b1 : (t620 != 0) = false := bne_eq_false_iff_eq.mpr c73
          clear c73
          (first | rw [c73b0] | (simp only [i64_w, i32_w]; rw [c73b0]) | skip)
          have H' := Aside0.mk H
          clear H
          have hnb74 := NB621_596.out
          have hnc74 := NB596_621.out
          have hnb75 := NB621_603.out
          have hnc75 := NB603_621.out
          have hnb76 := NB621_614.out
          have hnc76 := NB614_621.out
          have hcz77 := blk_all5 BK621.out
          have hnb78 := NB603_596.out
          have hnc78 := NB596_603.out
          have hnb79 := NB603_614.out
          have hnc79 := NB614_603.out
          have hcz80 := blk_all5 BK603.out
          go_wp2
          repeat (go_quiet (fail); try go_wp2)
          go_meet
          case rel => exact ⟨_, ((!(t615 == t597) || (!(t616 == t598) || (!(t617 == t599) || (!(t618 == t600) || (!(t619 == t601))))))), eq_now, H', ⟨by have := HK1.out; have := HJ32.out; first | omega | exact Nat.le_refl _⟩, ⟨bk_now⟩, ⟨bk_now⟩, ⟨bk_now⟩, ⟨bk_now⟩, ⟨b_now⟩⟩
         ·rw [if_neg c73] at H
          have c73b0 : (t620 == 0) = false := beq_eq_false_iff_ne.mpr c73
          have c73b1 : (t620 != 0) = true := bne_iff_ne.mpr c73
          (first | rw [c73b0] | (simp only [i64_w, i32_w]; rw [c73b0]) | skip)
          have H' := Aside0.mk H
          clear H
          go_wp2
          repeat (go_quiet (fail); try go_wp2)
          go_meet
          case rel => exact ⟨_, (true), eq_now, H', ⟨by have := HK1.out; have := HJ32.out; first | omega | exact Nat.le_refl _⟩, ⟨bk_now⟩, ⟨bk_now⟩, ⟨bk_now⟩, ⟨bk_now⟩, ⟨b_now⟩⟩
        case rest =>
         clear HC72
         try clear c1
         try clear c2
         try clear p2
         try clear c3
         try clear c4
         try clear c5
         try clear c6
         try clear p6
         try clear q6
         try clear hx6
         try clear c7
         try clear c8
         try clear c8b0
         try clear c8b1
         try clear c10
         try clear c13
         try clear c21
         try clear c21b0
         try clear c22
         try clear c22b0
         try clear c23
         try clear c23b0
         try clear c24
         try clear c24b0
         try clear c25
         try clear c25b0
         try clear c27
         try clear c27b0
         try clear c28
         try clear c28b0
         try clear c29
         try clear c29b0
         try clear c35
         try clear c38
         try clear c39
         try clear c43
         try clear c44
         try clear c45
         try clear c47
         try clear c47b0
         try clear c47b1
         try clear c48
         try clear c49
         try clear c50
         try clear c52
         try clear c52b0
         try clear c52b1
         try clear c53
         try clear c54
         try clear c55
         try clear c57
         try clear c57b0
         try clear c57b1
         try clear c58
         try clear c59
         try clear c60
         try clear p61
         try clear q61
         try clear hx61
         try clear c62
         try clear c62b0
         try clear c62b1
         try clear c63
         try clear c64
         try clear p64
         try clear c65
         try clear c67
         try clear c68
         try clear c69
         try clear c71
         try clear c73
         try clear c73b0
         try clear c73b1
         try clear c74
         try clear c75
         try clear c76
         try clear c78
         try clear c79
         try clear hcz10
         try clear hcz14
         try clear hcz15
         try clear hcz17
         try clear hcz19
         try clear hcz36
         try clear hcz40
         try clear hcz46
         try clear hcz51
         try clear hcz56
         try clear hcz61
         try clear hcz66
         try clear hcz70
         try clear hcz77
         try clear hcz80
         try clear hx610_0
         try clear hx611_0
         try clear hx612_0
         try clear hx613_0
         try clear p2
         try clear p6
         try clear p61
         try clear p610
         try clear p611
         try clear p612
         try clear p613
         try clear p64
         try clear q6
         try clear q61
         try clear q610
         try clear q611
         try clear q612
         try clear q613
         obtain ⟨kq, x120_71, rfl, HA, HJ71, BK596, BK603, BK614, BK621, HB⟩ := hcut
         cases kq with
         | zero => exact absurd HA.out (by simp [stockadelaw02_InsnNear.j2])
         | succ kj71 =>
          have H := HA.out
          clear HA
          simp only [stockadelaw02_InsnNear.j2] at H
          by_cases c81 : x120_71 = true
          ·subst c81
           replace H := sh_t H
           obtain rfl := Option.some.inj H
           exact absurd HRT.out (by simp)
          ·replace c81 := Bool.eq_false_iff.mpr c81
           subst c81
           replace H := sh_f H
           replace H := Option.bind_eq_some_iff.mp H; obtain ⟨⟨t623, t624, t625, t626, t627, t628⟩, A820, H⟩ := H; try dsimp only at H
           have A82 := Aside0.mk A820
           clear A820
           by_cases c83 : t628 = 0
           ·rw [if_pos c83] at H
            have c83b0 : (t628 == 0) = true := beq_iff_eq.mpr c83
            have c83b1 : (t628 != 0) = false := bne_eq_false_iff_eq.mpr c83
            clear c83
            by_cases c84 : t597 = 2
            ·rw [if_pos c84] at H
             have c84b0 : (t597 == 2) = true := beq_iff_eq.mpr c84
             have c84b1 : (t597 != 2) = false := bne_eq_false_iff_eq.mpr c84
             clear c84
             by_cases c85 : t607 ≥ (-1)
             ·rw [if_pos c85] at H
              have c85b0 : decide ((-1) ≤ t607) = true := decide_eq_true c85
              clear c85
              by_cases c86 : t607 < 10
              ·rw [if_pos c86] at H
               have c86b0 : decide (t607 < 10) = true := decide_eq_true c86
               clear c86
               by_cases c87 : t608 ≥ 1
               ·rw [if_pos c87] at H
                have c87b0 : decide (1 ≤ t608) = true := decide_eq_true c87
                clear c87
                by_cases c88 : t608 ≤ 2
                ·rw [if_pos c88] at H
                 have c88b0 : decide (t608 ≤ 2) = true := decide_eq_true c88
                 clear c88
                 replace H := Option.bind_eq_some_iff.mp H; obtain ⟨t629, A890, H⟩ := H; try dsimp only at H
                 have A89 := Aside0.mk A890
                 clear A890
                 obtain rfl := Option.some.inj H
                 have hnb90 := NB596_603.out
                 have hnc90 := NB603_596.out
                 have hnb91 := NB596_614.out
                 have hnc91 := NB614_596.out
                 have hnb92 := NB596_621.out
                 have hnc92 := NB621_596.out
                 have hcz93 := blk_all5 BK596.out
                 go_upto_region 22 with (((with_reducible refine gate_dst (N := 16) rfl ?_); (try (refine gate_guard (by rfl) ?_; dsimp only)); refine sh_box 16 #[.int .u8 0, .int .u8 0, .int .u8 0, .int .i16 0, .int .i32 0] 24 ?_; intro gb622 hg w94 hbox hb; have GE622 := sh_z (w := w) hg; have NB596_622 := sh_n BK596 hg; have NB603_622 := sh_n BK603 hg; have NB614_622 := sh_n BK614 hg; have NB621_622 := sh_n BK621 hg; have NB622_596 := sh_s NB596_622; have NB622_603 := sh_s NB603_622; have NB622_614 := sh_s NB614_622; have NB622_621 := sh_s NB621_622; replace BK596 := sh_k BK596 hb; replace BK603 := sh_k BK603 hb; replace BK614 := sh_k BK614 hb; replace BK621 := sh_k BK621 hb; replace HB := sh_b (w := w) hb; have BK622 := Aside0.mk (hbox); clear hb hbox hg; have hnb95 := NB622_596.out; have hnc95 := NB596_622.out; have hnb96 := NB622_603.out; have hnc96 := NB603_622.out; have hnb97 := NB622_614.out; have hnc97 := NB614_622.out; have hnb98 := NB622_621.out; have hnc98 := NB621_622.out; have hcz99 := blk_all5 BK622.out))
                 refine sh_gen (fun wg => Aside0 (wg.heap[gb596]? = some (.cells #[.int .u8 a0_0, .int .u8 a0_1, .int .u8 a0_2, .int .i16 a0_3, .int .i32 a0_4] 24 (0, 0))) ∧ Aside0 (wg.heap[gb603]? = some (.cells #[.int .i64 t597, .int .i64 t598, .int .i64 t599, .bool t600, .bool t601] 26 (0, 0))) ∧ Aside0 (wg.heap[gb614]? = some (.cells #[.int .u8 a0_0, .int .u8 a0_1, .int .u8 a0_2, .int .i16 a1, .int .i32 a0_4] 24 (0, 0))) ∧ Aside0 (wg.heap[gb621]? = some (.cells #[.int .i64 t615, .int .i64 t616, .int .i64 t617, .bool t618, .bool t619] 26 (0, 0))) ∧ Aside0 (wg.heap[gb622]? = some (.cells #[.int .u8 a0_0, .int .u8 a0_1, .int .u8 a0_2, .int .i16 a0_3, .int .i32 a2] 24 (0, 0))) ∧ Aside0 (Below w.heap.size w wg)) ⟨⟨bk_now⟩, ⟨bk_now⟩, ⟨bk_now⟩, ⟨bk_now⟩, ⟨bk_now⟩, ⟨b_now⟩⟩ ?_
                 clear BK596 BK603 BK614 BK621 BK622 HB
                 rintro wg ⟨BK596, BK603, BK614, BK621, BK622, HB⟩
                 have hczg := blk_all5 BK622.out
                 go_wp2_with (first | (go_at_call 12; (with_reducible refine (insn_Of.calls kj71 a0_0 a0_1 a0_2 a0_3 a2 t623 t624 t625 t626 t627 t628 _ ?side1 A82.out).mono ?_); (case side1 => exact Kd.C_below HRG0.out b_now); rintro e w100 ⟨rfl, hb⟩; replace BK596 := sh_kp (g := gb596) (t := 24) #[.int .u8 a0_0, .int .u8 a0_1, .int .u8 a0_2, .int .i16 a0_3, .int .i32 a0_4] hb; replace BK603 := sh_kp (g := gb603) (t := 26) #[.int .i64 t597, .int .i64 t598, .int .i64 t599, .bool t600, .bool t601] hb; replace BK614 := sh_kp (g := gb614) (t := 24) #[.int .u8 a0_0, .int .u8 a0_1, .int .u8 a0_2, .int .i16 a1, .int .i32 a0_4] hb; replace BK621 := sh_kp (g := gb621) (t := 26) #[.int .i64 t615, .int .i64 t616, .int .i64 t617, .bool t618, .bool t619] hb; replace BK622 := sh_kp (g := gb622) (t := 24) #[.int .u8 a0_0, .int .u8 a0_1, .int .u8 a0_2, .int .i16 a0_3, .int .i32 a2] hb; replace HB := sh_b (w := w) hb; (try clear hb); (try clear hb2); (try clear hk); (try clear hi); have hnb101 := NB621_603.out; have hnc101 := NB603_621.out; have hnb102 := NB621_614.out; have hnc102 := NB614_621.out; have hcz103 := blk_all5 BK621.out; have hnb104 := NB603_614.out; have hnc104 := NB614_603.out; have hcz105 := blk_all5 BK603.out) | (go_at_call 15; (with_reducible refine (stockadelaw02_wakes.calls kj71  t629 _ ?side1 (by first | rfl | exact HRT.out) A89.out).mono ?_); (case side1 => exact Kd.C_below HRG0.out b_now); rintro e w106 ⟨rfl, hb⟩; replace BK596 := sh_kp (g := gb596) (t := 24) #[.int .u8 a0_0, .int .u8 a0_1, .int .u8 a0_2, .int .i16 a0_3, .int .i32 a0_4] hb; replace BK603 := sh_kp (g := gb603) (t := 26) #[.int .i64 t597, .int .i64 t598, .int .i64 t599, .bool t600, .bool t601] hb; replace BK614 := sh_kp (g := gb614) (t := 24) #[.int .u8 a0_0, .int .u8 a0_1, .int .u8 a0_2, .int .i16 a1, .int .i32 a0_4] hb; replace BK621 := sh_kp (g := gb621) (t := 26) #[.int .i64 t623, .int .i64 t624, .int .i64 t625, .bool t626, .bool t627] hb; replace BK622 := sh_kp (g := gb622) (t := 24) #[.int .u8 a0_0, .int .u8 a0_1, .int .u8 a0_2, .int .i16 a0_3, .int .i32 a2] hb; replace HB := sh_b (w := w) hb; (try clear hb); (try clear hb2); (try clear hk); (try clear hi)))
                 repeat (go_quiet (first | ((with_reducible refine gate_dst (N := 16) rfl ?_); (try (refine gate_guard (by rfl) ?_; dsimp only)); refine sh_box 16 #[.int .u8 0, .int .u8 0, .int .u8 0, .int .i16 0, .int .i32 0] 24 ?_; intro gb622 hg w94 hbox hb; have GE622 := sh_z (w := w) hg; have NB596_622 := sh_n BK596 hg; have NB603_622 := sh_n BK603 hg; have NB614_622 := sh_n BK614 hg; have NB621_622 := sh_n BK621 hg; have NB622_596 := sh_s NB596_622; have NB622_603 := sh_s NB603_622; have NB622_614 := sh_s NB614_622; have NB622_621 := sh_s NB621_622; replace BK596 := sh_k BK596 hb; replace BK603 := sh_k BK603 hb; replace BK614 := sh_k BK614 hb; replace BK621 := sh_k BK621 hb; replace HB := sh_b (w := w) hb; have BK622 := Aside0.mk (hbox); clear hb hbox hg; have hnb95 := NB622_596.out; have hnc95 := NB596_622.out; have hnb96 := NB622_603.out; have hnc96 := NB603_622.out; have hnb97 := NB622_614.out; have hnc97 := NB614_622.out; have hnb98 := NB622_621.out; have hnc98 := NB621_622.out; have hcz99 := blk_all5 BK622.out) | (go_at_call 12; (with_reducible refine (insn_Of.calls kj71 a0_0 a0_1 a0_2 a0_3 a2 t623 t624 t625 t626 t627 t628 _ ?side1 A82.out).mono ?_); (case side1 => exact Kd.C_below HRG0.out b_now); rintro e w100 ⟨rfl, hb⟩; replace BK596 := sh_kp (g := gb596) (t := 24) #[.int .u8 a0_0, .int .u8 a0_1, .int .u8 a0_2, .int .i16 a0_3, .int .i32 a0_4] hb; replace BK603 := sh_kp (g := gb603) (t := 26) #[.int .i64 t597, .int .i64 t598, .int .i64 t599, .bool t600, .bool t601] hb; replace BK614 := sh_kp (g := gb614) (t := 24) #[.int .u8 a0_0, .int .u8 a0_1, .int .u8 a0_2, .int .i16 a1, .int .i32 a0_4] hb; replace BK621 := sh_kp (g := gb621) (t := 26) #[.int .i64 t615, .int .i64 t616, .int .i64 t617, .bool t618, .bool t619] hb; replace BK622 := sh_kp (g := gb622) (t := 24) #[.int .u8 a0_0, .int .u8 a0_1, .int .u8 a0_2, .int .i16 a0_3, .int .i32 a2] hb; replace HB := sh_b (w := w) hb; (try clear hb); (try clear hb2); (try clear hk); (try clear hi); have hnb101 := NB621_603.out; have hnc101 := NB603_621.out; have hnb102 := NB621_614.out; have hnc102 := NB614_621.out; have hcz103 := blk_all5 BK621.out; have hnb104 := NB603_614.out; have hnc104 := NB614_603.out; have hcz105 := blk_all5 BK603.out) | (go_at_call 15; (with_reducible refine (stockadelaw02_wakes.calls kj71  t629 _ ?side1 (by first | rfl | exact HRT.out) A89.out).mono ?_); (case side1 => exact Kd.C_below HRG0.out b_now); rintro e w106 ⟨rfl, hb⟩; replace BK596 := sh_kp (g := gb596) (t := 24) #[.int .u8 a0_0, .int .u8 a0_1, .int .u8 a0_2, .int .i16 a0_3, .int .i32 a0_4] hb; replace BK603 := sh_kp (g := gb603) (t := 26) #[.int .i64 t597, .int .i64 t598, .int .i64 t599, .bool t600, .bool t601] hb; replace BK614 := sh_kp (g := gb614) (t := 24) #[.int .u8 a0_0, .int .u8 a0_1, .int .u8 a0_2, .int .i16 a1, .int .i32 a0_4] hb; replace BK621 := sh_kp (g := gb621) (t := 26) #[.int .i64 t623, .int .i64 t624, .int .i64 t625, .bool t626, .bool t627] hb; replace BK622 := sh_kp (g := gb622) (t := 24) #[.int .u8 a0_0, .int .u8 a0_1, .int .u8 a0_2, .int .i16 a0_3, .int .i32 a2] hb; replace HB := sh_b (w := w) hb; (try clear hb); (try clear hb2); (try clear hk); (try clear hi))); try go_wp2_with (first | ((with_reducible refine gate_dst (N := 16) rfl ?_); (try (refine gate_guard (by rfl) ?_; dsimp only)); refine sh_box 16 #[.int .u8 0, .int .u8 0, .int .u8 0, .int .i16 0, .int .i32 0] 24 ?_; intro gb622 hg w94 hbox hb; have GE622 := sh_z (w := w) hg; have NB596_622 := sh_n BK596 hg; have NB603_622 := sh_n BK603 hg; have NB614_622 := sh_n BK614 hg; have NB621_622 := sh_n BK621 hg; have NB622_596 := sh_s NB596_622; have NB622_603 := sh_s NB603_622; have NB622_614 := sh_s NB614_622; have NB622_621 := sh_s NB621_622; replace BK596 := sh_k BK596 hb; replace BK603 := sh_k BK603 hb; replace BK614 := sh_k BK614 hb; replace BK621 := sh_k BK621 hb; replace HB := sh_b (w := w) hb; have BK622 := Aside0.mk (hbox); clear hb hbox hg; have hnb95 := NB622_596.out; have hnc95 := NB596_622.out; have hnb96 := NB622_603.out; have hnc96 := NB603_622.out; have hnb97 := NB622_614.out; have hnc97 := NB614_622.out; have hnb98 := NB622_621.out; have hnc98 := NB621_622.out; have hcz99 := blk_all5 BK622.out) | (go_at_call 12; (with_reducible refine (insn_Of.calls kj71 a0_0 a0_1 a0_2 a0_3 a2 t623 t624 t625 t626 t627 t628 _ ?side1 A82.out).mono ?_); (case side1 => exact Kd.C_below HRG0.out b_now); rintro e w100 ⟨rfl, hb⟩; replace BK596 := sh_kp (g := gb596) (t := 24) #[.int .u8 a0_0, .int .u8 a0_1, .int .u8 a0_2, .int .i16 a0_3, .int .i32 a0_4] hb; replace BK603 := sh_kp (g := gb603) (t := 26) #[.int .i64 t597, .int .i64 t598, .int .i64 t599, .bool t600, .bool t601] hb; replace BK614 := sh_kp (g := gb614) (t := 24) #[.int .u8 a0_0, .int .u8 a0_1, .int .u8 a0_2, .int .i16 a1, .int .i32 a0_4] hb; replace BK621 := sh_kp (g := gb621) (t := 26) #[.int .i64 t615, .int .i64 t616, .int .i64 t617, .bool t618, .bool t619] hb; replace BK622 := sh_kp (g := gb622) (t := 24) #[.int .u8 a0_0, .int .u8 a0_1, .int .u8 a0_2, .int .i16 a0_3, .int .i32 a2] hb; replace HB := sh_b (w := w) hb; (try clear hb); (try clear hb2); (try clear hk); (try clear hi); have hnb101 := NB621_603.out; have hnc101 := NB603_621.out; have hnb102 := NB621_614.out; have hnc102 := NB614_621.out; have hcz103 := blk_all5 BK621.out; have hnb104 := NB603_614.out; have hnc104 := NB614_603.out; have hcz105 := blk_all5 BK603.out) | (go_at_call 15; (with_reducible refine (stockadelaw02_wakes.calls kj71  t629 _ ?side1 (by first | rfl | exact HRT.out) A89.out).mono ?_); (case side1 => exact Kd.C_below HRG0.out b_now); rintro e w106 ⟨rfl, hb⟩; replace BK596 := sh_kp (g := gb596) (t := 24) #[.int .u8 a0_0, .int .u8 a0_1, .int .u8 a0_2, .int .i16 a0_3, .int .i32 a0_4] hb; replace BK603 := sh_kp (g := gb603) (t := 26) #[.int .i64 t597, .int .i64 t598, .int .i64 t599, .bool t600, .bool t601] hb; replace BK614 := sh_kp (g := gb614) (t := 24) #[.int .u8 a0_0, .int .u8 a0_1, .int .u8 a0_2, .int .i16 a1, .int .i32 a0_4] hb; replace BK621 := sh_kp (g := gb621) (t := 26) #[.int .i64 t623, .int .i64 t624, .int .i64 t625, .bool t626, .bool t627] hb; replace BK622 := sh_kp (g := gb622) (t := 24) #[.int .u8 a0_0, .int .u8 a0_1, .int .u8 a0_2, .int .i16 a0_3, .int .i32 a2] hb; replace HB := sh_b (w := w) hb; (try clear hb); (try clear hb2); (try clear hk); (try clear hi))))
                 go_ret
                 exact ⟨ret_now, b_now⟩
                ·rw [if_neg c88] at H
                 have c88b0 : decide (t608 ≤ 2) = false := decide_eq_false c88
                 clear c88
                 obtain rfl := Option.some.inj H
                 exact absurd HRT.out (by simp)
               ·rw [if_neg c87] at H
                have c87b0 : decide (1 ≤ t608) = false := decide_eq_false c87
                clear c87
                obtain rfl := Option.some.inj H
                exact absurd HRT.out (by simp)
              ·rw [if_neg c86] at H
               have c86b0 : decide (t607 < 10) = false := decide_eq_false c86
               clear c86
               obtain rfl := Option.some.inj H
               exact absurd HRT.out (by simp)
             ·rw [if_neg c85] at H
              have c85b0 : decide ((-1) ≤ t607) = false := decide_eq_false c85
              clear c85
              obtain rfl := Option.some.inj H
              exact absurd HRT.out (by simp)
            ·rw [if_neg c84] at H
             have c84b0 : (t597 == 2) = false := beq_eq_false_iff_ne.mpr c84
             have c84b1 : (t597 != 2) = true := bne_iff_ne.mpr c84
             by_cases c107 : (t623 == t597 && (t624 == t598 && (t625 == t599 && (t626 == t600 && (t627 == t601))))) = true
             ·rw [if_pos c107] at H
              have c107b0 : (t623 == t597 && (t624 == t598 && (t625 == t599 && (t626 == t600 && (t627 == t601))))) = true := c107
              (try (have c107b1 : decide (t623 = t597 && (t624 == t598 && (t625 == t599 && (t626 == t600 && (t627 == t601))))) = true := by simpa using c107))
              (try (have c107b2 : (t623 == t597 && (t624 == t598 && (t625 == t599 && (t626 == t600 && (t627 == t601))))) = true := by simpa using c107))
              clear c107
              by_cases c108 : t607 ≥ (-1)
              ·rw [if_pos c108] at H
               have c108b0 : decide ((-1) ≤ t607) = true := decide_eq_true c108
               clear c108
               by_cases c109 : t607 < 10
               ·rw [if_pos c109] at H
                have c109b0 : decide (t607 < 10) = true := decide_eq_true c109
                clear c109
                by_cases c110 : t608 ≥ 1
                ·rw [if_pos c110] at H
                 have c110b0 : decide (1 ≤ t608) = true := decide_eq_true c110
                 clear c110
                 by_cases c111 : t608 ≤ 2
                 ·rw [if_pos c111] at H
                  have c111b0 : decide (t608 ≤ 2) = true := decide_eq_true c111
                  clear c111
                  replace H := Option.bind_eq_some_iff.mp H; obtain ⟨t630, A1120, H⟩ := H; try dsimp only at H
                  have A112 := Aside0.mk A1120
                  clear A1120
                  obtain rfl := Option.some.inj H
                  have hnb113 := NB596_603.out
                  have hnc113 := NB603_596.out
                  have hnb114 := NB596_614.out
                  have hnc114 := NB614_596.out
                  have hnb115 := NB596_621.out
                  have hnc115 := NB621_596.out
                  have hcz116 := blk_all5 BK596.out
                  go_upto_region 22 with (((with_reducible refine gate_dst (N := 16) rfl ?_); (try (refine gate_guard (by rfl) ?_; dsimp only)); refine sh_box 16 #[.int .u8 0, .int .u8 0, .int .u8 0, .int .i16 0, .int .i32 0] 24 ?_; intro gb622 hg w117 hbox hb; have GE622 := sh_z (w := w) hg; have NB596_622 := sh_n BK596 hg; have NB603_622 := sh_n BK603 hg; have NB614_622 := sh_n BK614 hg; have NB621_622 := sh_n BK621 hg; have NB622_596 := sh_s NB596_622; have NB622_603 := sh_s NB603_622; have NB622_614 := sh_s NB614_622; have NB622_621 := sh_s NB621_622; replace BK596 := sh_k BK596 hb; replace BK603 := sh_k BK603 hb; replace BK614 := sh_k BK614 hb; replace BK621 := sh_k BK621 hb; replace HB := sh_b (w := w) hb; have BK622 := Aside0.mk (hbox); clear hb hbox hg; have hnb118 := NB622_596.out; have hnc118 := NB596_622.out; have hnb119 := NB622_603.out; have hnc119 := NB603_622.out; have hnb120 := NB622_614.out; have hnc120 := NB614_622.out; have hnb121 := NB622_621.out; have hnc121 := NB621_622.out; have hcz122 := blk_all5 BK622.out))
                  refine sh_gen (fun wg => Aside0 (wg.heap[gb596]? = some (.cells #[.int .u8 a0_0, .int .u8 a0_1, .int .u8 a0_2, .int .i16 a0_3, .int .i32 a0_4] 24 (0, 0))) ∧ Aside0 (wg.heap[gb603]? = some (.cells #[.int .i64 t597, .int .i64 t598, .int .i64 t599, .bool t600, .bool t601] 26 (0, 0))) ∧ Aside0 (wg.heap[gb614]? = some (.cells #[.int .u8 a0_0, .int .u8 a0_1, .int .u8 a0_2, .int .i16 a1, .int .i32 a0_4] 24 (0, 0))) ∧ Aside0 (wg.heap[gb621]? = some (.cells #[.int .i64 t615, .int .i64 t616, .int .i64 t617, .bool t618, .bool t619] 26 (0, 0))) ∧ Aside0 (wg.heap[gb622]? = some (.cells #[.int .u8 a0_0, .int .u8 a0_1, .int .u8 a0_2, .int .i16 a0_3, .int .i32 a2] 24 (0, 0))) ∧ Aside0 (Below w.heap.size w wg)) ⟨⟨bk_now⟩, ⟨bk_now⟩, ⟨bk_now⟩, ⟨bk_now⟩, ⟨bk_now⟩, ⟨b_now⟩⟩ ?_
                  clear BK596 BK603 BK614 BK621 BK622 HB
                  rintro wg ⟨BK596, BK603, BK614, BK621, BK622, HB⟩
                  have hczg := blk_all5 BK622.out
                  go_wp2_with (first | (go_at_call 12; (with_reducible refine (insn_Of.calls kj71 a0_0 a0_1 a0_2 a0_3 a2 t623 t624 t625 t626 t627 t628 _ ?side1 A82.out).mono ?_); (case side1 => exact Kd.C_below HRG0.out b_now); rintro e w123 ⟨rfl, hb⟩; replace BK596 := sh_kp (g := gb596) (t := 24) #[.int .u8 a0_0, .int .u8 a0_1, .int .u8 a0_2, .int .i16 a0_3, .int .i32 a0_4] hb; replace BK603 := sh_kp (g := gb603) (t := 26) #[.int .i64 t597, .int .i64 t598, .int .i64 t599, .bool t600, .bool t601] hb; replace BK614 := sh_kp (g := gb614) (t := 24) #[.int .u8 a0_0, .int .u8 a0_1, .int .u8 a0_2, .int .i16 a1, .int .i32 a0_4] hb; replace BK621 := sh_kp (g := gb621) (t := 26) #[.int .i64 t615, .int .i64 t616, .int .i64 t617, .bool t618, .bool t619] hb; replace BK622 := sh_kp (g := gb622) (t := 24) #[.int .u8 a0_0, .int .u8 a0_1, .int .u8 a0_2, .int .i16 a0_3, .int .i32 a2] hb; replace HB := sh_b (w := w) hb; (try clear hb); (try clear hb2); (try clear hk); (try clear hi); have hnb124 := NB621_603.out; have hnc124 := NB603_621.out; have hnb125 := NB621_614.out; have hnc125 := NB614_621.out; have hcz126 := blk_all5 BK621.out; have hnb127 := NB603_614.out; have hnc127 := NB614_603.out; have hcz128 := blk_all5 BK603.out) | (go_at_call 15; (with_reducible refine (stockadelaw02_wakes.calls kj71  t630 _ ?side1 (by first | rfl | exact HRT.out) A112.out).mono ?_); (case side1 => exact Kd.C_below HRG0.out b_now); rintro e w129 ⟨rfl, hb⟩; replace BK596 := sh_kp (g := gb596) (t := 24) #[.int .u8 a0_0, .int .u8 a0_1, .int .u8 a0_2, .int .i16 a0_3, .int .i32 a0_4] hb; replace BK603 := sh_kp (g := gb603) (t := 26) #[.int .i64 t597, .int .i64 t598, .int .i64 t599, .bool t600, .bool t601] hb; replace BK614 := sh_kp (g := gb614) (t := 24) #[.int .u8 a0_0, .int .u8 a0_1, .int .u8 a0_2, .int .i16 a1, .int .i32 a0_4] hb; replace BK621 := sh_kp (g := gb621) (t := 26) #[.int .i64 t623, .int .i64 t624, .int .i64 t625, .bool t626, .bool t627] hb; replace BK622 := sh_kp (g := gb622) (t := 24) #[.int .u8 a0_0, .int .u8 a0_1, .int .u8 a0_2, .int .i16 a0_3, .int .i32 a2] hb; replace HB := sh_b (w := w) hb; (try clear hb); (try clear hb2); (try clear hk); (try clear hi)))
                  repeat (go_quiet (first | ((with_reducible refine gate_dst (N := 16) rfl ?_); (try (refine gate_guard (by rfl) ?_; dsimp only)); refine sh_box 16 #[.int .u8 0, .int .u8 0, .int .u8 0, .int .i16 0, .int .i32 0] 24 ?_; intro gb622 hg w117 hbox hb; have GE622 := sh_z (w := w) hg; have NB596_622 := sh_n BK596 hg; have NB603_622 := sh_n BK603 hg; have NB614_622 := sh_n BK614 hg; have NB621_622 := sh_n BK621 hg; have NB622_596 := sh_s NB596_622; have NB622_603 := sh_s NB603_622; have NB622_614 := sh_s NB614_622; have NB622_621 := sh_s NB621_622; replace BK596 := sh_k BK596 hb; replace BK603 := sh_k BK603 hb; replace BK614 := sh_k BK614 hb; replace BK621 := sh_k BK621 hb; replace HB := sh_b (w := w) hb; have BK622 := Aside0.mk (hbox); clear hb hbox hg; have hnb118 := NB622_596.out; have hnc118 := NB596_622.out; have hnb119 := NB622_603.out; have hnc119 := NB603_622.out; have hnb120 := NB622_614.out; have hnc120 := NB614_622.out; have hnb121 := NB622_621.out; have hnc121 := NB621_622.out; have hcz122 := blk_all5 BK622.out) | (go_at_call 12; (with_reducible refine (insn_Of.calls kj71 a0_0 a0_1 a0_2 a0_3 a2 t623 t624 t625 t626 t627 t628 _ ?side1 A82.out).mono ?_); (case side1 => exact Kd.C_below HRG0.out b_now); rintro e w123 ⟨rfl, hb⟩; replace BK596 := sh_kp (g := gb596) (t := 24) #[.int .u8 a0_0, .int .u8 a0_1, .int .u8 a0_2, .int .i16 a0_3, .int .i32 a0_4] hb; replace BK603 := sh_kp (g := gb603) (t := 26) #[.int .i64 t597, .int .i64 t598, .int .i64 t599, .bool t600, .bool t601] hb; replace BK614 := sh_kp (g := gb614) (t := 24) #[.int .u8 a0_0, .int .u8 a0_1, .int .u8 a0_2, .int .i16 a1, .int .i32 a0_4] hb; replace BK621 := sh_kp (g := gb621) (t := 26) #[.int .i64 t615, .int .i64 t616, .int .i64 t617, .bool t618, .bool t619] hb; replace BK622 := sh_kp (g := gb622) (t := 24) #[.int .u8 a0_0, .int .u8 a0_1, .int .u8 a0_2, .int .i16 a0_3, .int .i32 a2] hb; replace HB := sh_b (w := w) hb; (try clear hb); (try clear hb2); (try clear hk); (try clear hi); have hnb124 := NB621_603.out; have hnc124 := NB603_621.out; have hnb125 := NB621_614.out; have hnc125 := NB614_621.out; have hcz126 := blk_all5 BK621.out; have hnb127 := NB603_614.out; have hnc127 := NB614_603.out; have hcz128 := blk_all5 BK603.out) | (go_at_call 15; (with_reducible refine (stockadelaw02_wakes.calls kj71  t630 _ ?side1 (by first | rfl | exact HRT.out) A112.out).mono ?_); (case side1 => exact Kd.C_below HRG0.out b_now); rintro e w129 ⟨rfl, hb⟩; replace BK596 := sh_kp (g := gb596) (t := 24) #[.int .u8 a0_0, .int .u8 a0_1, .int .u8 a0_2, .int .i16 a0_3, .int .i32 a0_4] hb; replace BK603 := sh_kp (g := gb603) (t := 26) #[.int .i64 t597, .int .i64 t598, .int .i64 t599, .bool t600, .bool t601] hb; replace BK614 := sh_kp (g := gb614) (t := 24) #[.int .u8 a0_0, .int .u8 a0_1, .int .u8 a0_2, .int .i16 a1, .int .i32 a0_4] hb; replace BK621 := sh_kp (g := gb621) (t := 26) #[.int .i64 t623, .int .i64 t624, .int .i64 t625, .bool t626, .bool t627] hb; replace BK622 := sh_kp (g := gb622) (t := 24) #[.int .u8 a0_0, .int .u8 a0_1, .int .u8 a0_2, .int .i16 a0_3, .int .i32 a2] hb; replace HB := sh_b (w := w) hb; (try clear hb); (try clear hb2); (try clear hk); (try clear hi))); try go_wp2_with (first | ((with_reducible refine gate_dst (N := 16) rfl ?_); (try (refine gate_guard (by rfl) ?_; dsimp only)); refine sh_box 16 #[.int .u8 0, .int .u8 0, .int .u8 0, .int .i16 0, .int .i32 0] 24 ?_; intro gb622 hg w117 hbox hb; have GE622 := sh_z (w := w) hg; have NB596_622 := sh_n BK596 hg; have NB603_622 := sh_n BK603 hg; have NB614_622 := sh_n BK614 hg; have NB621_622 := sh_n BK621 hg; have NB622_596 := sh_s NB596_622; have NB622_603 := sh_s NB603_622; have NB622_614 := sh_s NB614_622; have NB622_621 := sh_s NB621_622; replace BK596 := sh_k BK596 hb; replace BK603 := sh_k BK603 hb; replace BK614 := sh_k BK614 hb; replace BK621 := sh_k BK621 hb; replace HB := sh_b (w := w) hb; have BK622 := Aside0.mk (hbox); clear hb hbox hg; have hnb118 := NB622_596.out; have hnc118 := NB596_622.out; have hnb119 := NB622_603.out; have hnc119 := NB603_622.out; have hnb120 := NB622_614.out; have hnc120 := NB614_622.out; have hnb121 := NB622_621.out; have hnc121 := NB621_622.out; have hcz122 := blk_all5 BK622.out) | (go_at_call 12; (with_reducible refine (insn_Of.calls kj71 a0_0 a0_1 a0_2 a0_3 a2 t623 t624 t625 t626 t627 t628 _ ?side1 A82.out).mono ?_); (case side1 => exact Kd.C_below HRG0.out b_now); rintro e w123 ⟨rfl, hb⟩; replace BK596 := sh_kp (g := gb596) (t := 24) #[.int .u8 a0_0, .int .u8 a0_1, .int .u8 a0_2, .int .i16 a0_3, .int .i32 a0_4] hb; replace BK603 := sh_kp (g := gb603) (t := 26) #[.int .i64 t597, .int .i64 t598, .int .i64 t599, .bool t600, .bool t601] hb; replace BK614 := sh_kp (g := gb614) (t := 24) #[.int .u8 a0_0, .int .u8 a0_1, .int .u8 a0_2, .int .i16 a1, .int .i32 a0_4] hb; replace BK621 := sh_kp (g := gb621) (t := 26) #[.int .i64 t615, .int .i64 t616, .int .i64 t617, .bool t618, .bool t619] hb; replace BK622 := sh_kp (g := gb622) (t := 24) #[.int .u8 a0_0, .int .u8 a0_1, .int .u8 a0_2, .int .i16 a0_3, .int .i32 a2] hb; replace HB := sh_b (w := w) hb; (try clear hb); (try clear hb2); (try clear hk); (try clear hi); have hnb124 := NB621_603.out; have hnc124 := NB603_621.out; have hnb125 := NB621_614.out; have hnc125 := NB614_621.out; have hcz126 := blk_all5 BK621.out; have hnb127 := NB603_614.out; have hnc127 := NB614_603.out; have hcz128 := blk_all5 BK603.out) | (go_at_call 15; (with_reducible refine (stockadelaw02_wakes.calls kj71  t630 _ ?side1 (by first | rfl | exact HRT.out) A112.out).mono ?_); (case side1 => exact Kd.C_below HRG0.out b_now); rintro e w129 ⟨rfl, hb⟩; replace BK596 := sh_kp (g := gb596) (t := 24) #[.int .u8 a0_0, .int .u8 a0_1, .int .u8 a0_2, .int .i16 a0_3, .int .i32 a0_4] hb; replace BK603 := sh_kp (g := gb603) (t := 26) #[.int .i64 t597, .int .i64 t598, .int .i64 t599, .bool t600, .bool t601] hb; replace BK614 := sh_kp (g := gb614) (t := 24) #[.int .u8 a0_0, .int .u8 a0_1, .int .u8 a0_2, .int .i16 a1, .int .i32 a0_4] hb; replace BK621 := sh_kp (g := gb621) (t := 26) #[.int .i64 t623, .int .i64 t624, .int .i64 t625, .bool t626, .bool t627] hb; replace BK622 := sh_kp (g := gb622) (t := 24) #[.int .u8 a0_0, .int .u8 a0_1, .int .u8 a0_2, .int .i16 a0_3, .int .i32 a2] hb; replace HB := sh_b (w := w) hb; (try clear hb); (try clear hb2); (try clear hk); (try clear hi))))
                  go_ret
                  exact ⟨ret_now, b_now⟩
                 ·rw [if_neg c111] at H
                  have c111b0 : decide (t608 ≤ 2) = false := decide_eq_false c111
                  clear c111
                  obtain rfl := Option.some.inj H
                  exact absurd HRT.out (by simp)
                ·rw [if_neg c110] at H
                 have c110b0 : decide (1 ≤ t608) = false := decide_eq_false c110
                 clear c110
                 obtain rfl := Option.some.inj H
                 exact absurd HRT.out (by simp)
               ·rw [if_neg c109] at H
                have c109b0 : decide (t607 < 10) = false := decide_eq_false c109
                clear c109
                obtain rfl := Option.some.inj H
                exact absurd HRT.out (by simp)
              ·rw [if_neg c108] at H
               have c108b0 : decide ((-1) ≤ t607) = false := decide_eq_false c108
               clear c108
               obtain rfl := Option.some.inj H
               exact absurd HRT.out (by simp)
             ·rw [if_neg c107] at H
              have c107b0 : (t623 == t597 && (t624 == t598 && (t625 == t599 && (t626 == t600 && (t627 == t601))))) = false := by simpa using c107
              (try (have c107b1 : decide (t623 = t597 && (t624 == t598 && (t625 == t599 && (t626 == t600 && (t627 == t601))))) = false := by simpa using c107))
              (try (have c107b2 : (t623 == t597 && (t624 == t598 && (t625 == t599 && (t626 == t600 && (t627 == t601))))) = false := by simpa using c107))
              (try (have c107b3 : ¬ (t623 = t597 && (t624 == t598 && (t625 == t599 && (t626 == t600 && (t627 == t601))))) := by simpa using c107))
              clear c107
              obtain rfl := Option.some.inj H
              exact absurd HRT.out (by simp)
           ·rw [if_neg c83] at H
            have c83b0 : (t628 == 0) = false := beq_eq_false_iff_ne.mpr c83
            have c83b1 : (t628 != 0) = true := bne_iff_ne.mpr c83
            by_cases c130 : t607 ≥ (-1)
            ·rw [if_pos c130] at H
             have c130b0 : decide ((-1) ≤ t607) = true := decide_eq_true c130
             clear c130
             by_cases c131 : t607 < 10
             ·rw [if_pos c131] at H
              have c131b0 : decide (t607 < 10) = true := decide_eq_true c131
              clear c131
              by_cases c132 : t608 ≥ 1
              ·rw [if_pos c132] at H
               have c132b0 : decide (1 ≤ t608) = true := decide_eq_true c132
               clear c132
               by_cases c133 : t608 ≤ 2
               ·rw [if_pos c133] at H
                have c133b0 : decide (t608 ≤ 2) = true := decide_eq_true c133
                clear c133
                replace H := Option.bind_eq_some_iff.mp H; obtain ⟨t631, A1340, H⟩ := H; try dsimp only at H
                have A134 := Aside0.mk A1340
                clear A1340
                obtain rfl := Option.some.inj H
                have hnb135 := NB596_603.out
                have hnc135 := NB603_596.out
                have hnb136 := NB596_614.out
                have hnc136 := NB614_596.out
                have hnb137 := NB596_621.out
                have hnc137 := NB621_596.out
                have hcz138 := blk_all5 BK596.out
                go_upto_region 22 with (((with_reducible refine gate_dst (N := 16) rfl ?_); (try (refine gate_guard (by rfl) ?_; dsimp only)); refine sh_box 16 #[.int .u8 0, .int .u8 0, .int .u8 0, .int .i16 0, .int .i32 0] 24 ?_; intro gb622 hg w139 hbox hb; have GE622 := sh_z (w := w) hg; have NB596_622 := sh_n BK596 hg; have NB603_622 := sh_n BK603 hg; have NB614_622 := sh_n BK614 hg; have NB621_622 := sh_n BK621 hg; have NB622_596 := sh_s NB596_622; have NB622_603 := sh_s NB603_622; have NB622_614 := sh_s NB614_622; have NB622_621 := sh_s NB621_622; replace BK596 := sh_k BK596 hb; replace BK603 := sh_k BK603 hb; replace BK614 := sh_k BK614 hb; replace BK621 := sh_k BK621 hb; replace HB := sh_b (w := w) hb; have BK622 := Aside0.mk (hbox); clear hb hbox hg; have hnb140 := NB622_596.out; have hnc140 := NB596_622.out; have hnb141 := NB622_603.out; have hnc141 := NB603_622.out; have hnb142 := NB622_614.out; have hnc142 := NB614_622.out; have hnb143 := NB622_621.out; have hnc143 := NB621_622.out; have hcz144 := blk_all5 BK622.out))
                refine sh_gen (fun wg => Aside0 (wg.heap[gb596]? = some (.cells #[.int .u8 a0_0, .int .u8 a0_1, .int .u8 a0_2, .int .i16 a0_3, .int .i32 a0_4] 24 (0, 0))) ∧ Aside0 (wg.heap[gb603]? = some (.cells #[.int .i64 t597, .int .i64 t598, .int .i64 t599, .bool t600, .bool t601] 26 (0, 0))) ∧ Aside0 (wg.heap[gb614]? = some (.cells #[.int .u8 a0_0, .int .u8 a0_1, .int .u8 a0_2, .int .i16 a1, .int .i32 a0_4] 24 (0, 0))) ∧ Aside0 (wg.heap[gb621]? = some (.cells #[.int .i64 t615, .int .i64 t616, .int .i64 t617, .bool t618, .bool t619] 26 (0, 0))) ∧ Aside0 (wg.heap[gb622]? = some (.cells #[.int .u8 a0_0, .int .u8 a0_1, .int .u8 a0_2, .int .i16 a0_3, .int .i32 a2] 24 (0, 0))) ∧ Aside0 (Below w.heap.size w wg)) ⟨⟨bk_now⟩, ⟨bk_now⟩, ⟨bk_now⟩, ⟨bk_now⟩, ⟨bk_now⟩, ⟨b_now⟩⟩ ?_
                clear BK596 BK603 BK614 BK621 BK622 HB
                rintro wg ⟨BK596, BK603, BK614, BK621, BK622, HB⟩
                have hczg := blk_all5 BK622.out
                go_wp2_with (first | (go_at_call 12; (with_reducible refine (insn_Of.calls kj71 a0_0 a0_1 a0_2 a0_3 a2 t623 t624 t625 t626 t627 t628 _ ?side1 A82.out).mono ?_); (case side1 => exact Kd.C_below HRG0.out b_now); rintro e w145 ⟨rfl, hb⟩; replace BK596 := sh_kp (g := gb596) (t := 24) #[.int .u8 a0_0, .int .u8 a0_1, .int .u8 a0_2, .int .i16 a0_3, .int .i32 a0_4] hb; replace BK603 := sh_kp (g := gb603) (t := 26) #[.int .i64 t597, .int .i64 t598, .int .i64 t599, .bool t600, .bool t601] hb; replace BK614 := sh_kp (g := gb614) (t := 24) #[.int .u8 a0_0, .int .u8 a0_1, .int .u8 a0_2, .int .i16 a1, .int .i32 a0_4] hb; replace BK621 := sh_kp (g := gb621) (t := 26) #[.int .i64 t615, .int .i64 t616, .int .i64 t617, .bool t618, .bool t619] hb; replace BK622 := sh_kp (g := gb622) (t := 24) #[.int .u8 a0_0, .int .u8 a0_1, .int .u8 a0_2, .int .i16 a0_3, .int .i32 a2] hb; replace HB := sh_b (w := w) hb; (try clear hb); (try clear hb2); (try clear hk); (try clear hi); have hnb146 := NB621_603.out; have hnc146 := NB603_621.out; have hnb147 := NB621_614.out; have hnc147 := NB614_621.out; have hcz148 := blk_all5 BK621.out) | (go_at_call 15; (with_reducible refine (stockadelaw02_wakes.calls kj71  t631 _ ?side1 (by first | rfl | exact HRT.out) A134.out).mono ?_); (case side1 => exact Kd.C_below HRG0.out b_now); rintro e w149 ⟨rfl, hb⟩; replace BK596 := sh_kp (g := gb596) (t := 24) #[.int .u8 a0_0, .int .u8 a0_1, .int .u8 a0_2, .int .i16 a0_3, .int .i32 a0_4] hb; replace BK603 := sh_kp (g := gb603) (t := 26) #[.int .i64 t597, .int .i64 t598, .int .i64 t599, .bool t600, .bool t601] hb; replace BK614 := sh_kp (g := gb614) (t := 24) #[.int .u8 a0_0, .int .u8 a0_1, .int .u8 a0_2, .int .i16 a1, .int .i32 a0_4] hb; replace BK621 := sh_kp (g := gb621) (t := 26) #[.int .i64 t623, .int .i64 t624, .int .i64 t625, .bool t626, .bool t627] hb; replace BK622 := sh_kp (g := gb622) (t := 24) #[.int .u8 a0_0, .int .u8 a0_1, .int .u8 a0_2, .int .i16 a0_3, .int .i32 a2] hb; replace HB := sh_b (w := w) hb; (try clear hb); (try clear hb2); (try clear hk); (try clear hi)))
                repeat (go_quiet (first | ((with_reducible refine gate_dst (N := 16) rfl ?_); (try (refine gate_guard (by rfl) ?_; dsimp only)); refine sh_box 16 #[.int .u8 0, .int .u8 0, .int .u8 0, .int .i16 0, .int .i32 0] 24 ?_; intro gb622 hg w139 hbox hb; have GE622 := sh_z (w := w) hg; have NB596_622 := sh_n BK596 hg; have NB603_622 := sh_n BK603 hg; have NB614_622 := sh_n BK614 hg; have NB621_622 := sh_n BK621 hg; have NB622_596 := sh_s NB596_622; have NB622_603 := sh_s NB603_622; have NB622_614 := sh_s NB614_622; have NB622_621 := sh_s NB621_622; replace BK596 := sh_k BK596 hb; replace BK603 := sh_k BK603 hb; replace BK614 := sh_k BK614 hb; replace BK621 := sh_k BK621 hb; replace HB := sh_b (w := w) hb; have BK622 := Aside0.mk (hbox); clear hb hbox hg; have hnb140 := NB622_596.out; have hnc140 := NB596_622.out; have hnb141 := NB622_603.out; have hnc141 := NB603_622.out; have hnb142 := NB622_614.out; have hnc142 := NB614_622.out; have hnb143 := NB622_621.out; have hnc143 := NB621_622.out; have hcz144 := blk_all5 BK622.out) | (go_at_call 12; (with_reducible refine (insn_Of.calls kj71 a0_0 a0_1 a0_2 a0_3 a2 t623 t624 t625 t626 t627 t628 _ ?side1 A82.out).mono ?_); (case side1 => exact Kd.C_below HRG0.out b_now); rintro e w145 ⟨rfl, hb⟩; replace BK596 := sh_kp (g := gb596) (t := 24) #[.int .u8 a0_0, .int .u8 a0_1, .int .u8 a0_2, .int .i16 a0_3, .int .i32 a0_4] hb; replace BK603 := sh_kp (g := gb603) (t := 26) #[.int .i64 t597, .int .i64 t598, .int .i64 t599, .bool t600, .bool t601] hb; replace BK614 := sh_kp (g := gb614) (t := 24) #[.int .u8 a0_0, .int .u8 a0_1, .int .u8 a0_2, .int .i16 a1, .int .i32 a0_4] hb; replace BK621 := sh_kp (g := gb621) (t := 26) #[.int .i64 t615, .int .i64 t616, .int .i64 t617, .bool t618, .bool t619] hb; replace BK622 := sh_kp (g := gb622) (t := 24) #[.int .u8 a0_0, .int .u8 a0_1, .int .u8 a0_2, .int .i16 a0_3, .int .i32 a2] hb; replace HB := sh_b (w := w) hb; (try clear hb); (try clear hb2); (try clear hk); (try clear hi); have hnb146 := NB621_603.out; have hnc146 := NB603_621.out; have hnb147 := NB621_614.out; have hnc147 := NB614_621.out; have hcz148 := blk_all5 BK621.out) | (go_at_call 15; (with_reducible refine (stockadelaw02_wakes.calls kj71  t631 _ ?side1 (by first | rfl | exact HRT.out) A134.out).mono ?_); (case side1 => exact Kd.C_below HRG0.out b_now); rintro e w149 ⟨rfl, hb⟩; replace BK596 := sh_kp (g := gb596) (t := 24) #[.int .u8 a0_0, .int .u8 a0_1, .int .u8 a0_2, .int .i16 a0_3, .int .i32 a0_4] hb; replace BK603 := sh_kp (g := gb603) (t := 26) #[.int .i64 t597, .int .i64 t598, .int .i64 t599, .bool t600, .bool t601] hb; replace BK614 := sh_kp (g := gb614) (t := 24) #[.int .u8 a0_0, .int .u8 a0_1, .int .u8 a0_2, .int .i16 a1, .int .i32 a0_4] hb; replace BK621 := sh_kp (g := gb621) (t := 26) #[.int .i64 t623, .int .i64 t624, .int .i64 t625, .bool t626, .bool t627] hb; replace BK622 := sh_kp (g := gb622) (t := 24) #[.int .u8 a0_0, .int .u8 a0_1, .int .u8 a0_2, .int .i16 a0_3, .int .i32 a2] hb; replace HB := sh_b (w := w) hb; (try clear hb); (try clear hb2); (try clear hk); (try clear hi))); try go_wp2_with (first | ((with_reducible refine gate_dst (N := 16) rfl ?_); (try (refine gate_guard (by rfl) ?_; dsimp only)); refine sh_box 16 #[.int .u8 0, .int .u8 0, .int .u8 0, .int .i16 0, .int .i32 0] 24 ?_; intro gb622 hg w139 hbox hb; have GE622 := sh_z (w := w) hg; have NB596_622 := sh_n BK596 hg; have NB603_622 := sh_n BK603 hg; have NB614_622 := sh_n BK614 hg; have NB621_622 := sh_n BK621 hg; have NB622_596 := sh_s NB596_622; have NB622_603 := sh_s NB603_622; have NB622_614 := sh_s NB614_622; have NB622_621 := sh_s NB621_622; replace BK596 := sh_k BK596 hb; replace BK603 := sh_k BK603 hb; replace BK614 := sh_k BK614 hb; replace BK621 := sh_k BK621 hb; replace HB := sh_b (w := w) hb; have BK622 := Aside0.mk (hbox); clear hb hbox hg; have hnb140 := NB622_596.out; have hnc140 := NB596_622.out; have hnb141 := NB622_603.out; have hnc141 := NB603_622.out; have hnb142 := NB622_614.out; have hnc142 := NB614_622.out; have hnb143 := NB622_621.out; have hnc143 := NB621_622.out; have hcz144 := blk_all5 BK622.out) | (go_at_call 12; (with_reducible refine (insn_Of.calls kj71 a0_0 a0_1 a0_2 a0_3 a2 t623 t624 t625 t626 t627 t628 _ ?side1 A82.out).mono ?_); (case side1 => exact Kd.C_below HRG0.out b_now); rintro e w145 ⟨rfl, hb⟩; replace BK596 := sh_kp (g := gb596) (t := 24) #[.int .u8 a0_0, .int .u8 a0_1, .int .u8 a0_2, .int .i16 a0_3, .int .i32 a0_4] hb; replace BK603 := sh_kp (g := gb603) (t := 26) #[.int .i64 t597, .int .i64 t598, .int .i64 t599, .bool t600, .bool t601] hb; replace BK614 := sh_kp (g := gb614) (t := 24) #[.int .u8 a0_0, .int .u8 a0_1, .int .u8 a0_2, .int .i16 a1, .int .i32 a0_4] hb; replace BK621 := sh_kp (g := gb621) (t := 26) #[.int .i64 t615, .int .i64 t616, .int .i64 t617, .bool t618, .bool t619] hb; replace BK622 := sh_kp (g := gb622) (t := 24) #[.int .u8 a0_0, .int .u8 a0_1, .int .u8 a0_2, .int .i16 a0_3, .int .i32 a2] hb; replace HB := sh_b (w := w) hb; (try clear hb); (try clear hb2); (try clear hk); (try clear hi); have hnb146 := NB621_603.out; have hnc146 := NB603_621.out; have hnb147 := NB621_614.out; have hnc147 := NB614_621.out; have hcz148 := blk_all5 BK621.out) | (go_at_call 15; (with_reducible refine (stockadelaw02_wakes.calls kj71  t631 _ ?side1 (by first | rfl | exact HRT.out) A134.out).mono ?_); (case side1 => exact Kd.C_below HRG0.out b_now); rintro e w149 ⟨rfl, hb⟩; replace BK596 := sh_kp (g := gb596) (t := 24) #[.int .u8 a0_0, .int .u8 a0_1, .int .u8 a0_2, .int .i16 a0_3, .int .i32 a0_4] hb; replace BK603 := sh_kp (g := gb603) (t := 26) #[.int .i64 t597, .int .i64 t598, .int .i64 t599, .bool t600, .bool t601] hb; replace BK614 := sh_kp (g := gb614) (t := 24) #[.int .u8 a0_0, .int .u8 a0_1, .int .u8 a0_2, .int .i16 a1, .int .i32 a0_4] hb; replace BK621 := sh_kp (g := gb621) (t := 26) #[.int .i64 t623, .int .i64 t624, .int .i64 t625, .bool t626, .bool t627] hb; replace BK622 := sh_kp (g := gb622) (t := 24) #[.int .u8 a0_0, .int .u8 a0_1, .int .u8 a0_2, .int .i16 a0_3, .int .i32 a2] hb; replace HB := sh_b (w := w) hb; (try clear hb); (try clear hb2); (try clear hk); (try clear hi))))
                go_ret
                exact ⟨ret_now, b_now⟩
               ·rw [if_neg c133] at H
                have c133b0 : decide (t608 ≤ 2) = false := decide_eq_false c133
                clear c133
                obtain rfl := Option.some.inj H
                exact absurd HRT.out (by simp)
              ·rw [if_neg c132] at H
               have c132b0 : decide (1 ≤ t608) = false := decide_eq_false c132
               clear c132
               obtain rfl := Option.some.inj H
               exact absurd HRT.out (by simp)
             ·rw [if_neg c131] at H
              have c131b0 : decide (t607 < 10) = false := decide_eq_false c131
              clear c131
              obtain rfl := Option.some.inj H
              exact absurd HRT.out (by simp)
            ·rw [if_neg c130] at H
             have c130b0 : decide ((-1) ≤ t607) = false := decide_eq_false c130
             clear c130
             obtain rfl := Option.some.inj H
             exact absurd HRT.out (by simp)
       ·replace c71 := Bool.eq_false_iff.mpr c71
        subst c71
        replace H := sh_f H
        by_cases c150 : ((t620 == 0) != (a1 == 0)) = true
        ·rw [if_pos c150] at H
         have c150b0 : ((t620 == 0) != (a1 == 0)) = true := c150
         (try (have c150b1 : decide ((t620 == 0) = (a1 == 0)) = false := by simpa using c150))
         (try (have c150b2 : ((t620 == 0) == (a1 == 0)) = false := by simpa using c150))
         (try (have c150b3 : ¬ ((t620 == 0) = (a1 == 0)) := by simpa using c150))
         clear c150
         obtain rfl := Option.some.inj H
         exact absurd HRT.out (by simp)
        ·rw [if_neg c150] at H
         have c150b0 : ((t620 == 0) != (a1 == 0)) = false := by simpa using c150
         (try (have c150b1 : decide ((t620 == 0) = (a1 == 0)) = true := by simpa using c150))
         (try (have c150b2 : ((t620 == 0) == (a1 == 0)) = true := by simpa using c150))
         clear c150
         replace H := Option.bind_eq_some_iff.mp H; obtain ⟨⟨t633, t634, t635, t636, t637, t638⟩, A1510, H⟩ := H; try dsimp only at H
         have A151 := Aside0.mk A1510
         clear A1510
         by_cases c152 : t638 = 0
         ·rw [if_pos c152] at H
          have c152b0 : (t638 == 0) = true := beq_iff_eq.mpr c152
          have c152b1 : (t638 != 0) = false := bne_eq_false_iff_eq.mpr c152
          clear c152
          by_cases c153 : t597 = 2
          ·rw [if_pos c153] at H
           have c153b0 : (t597 == 2) = true := beq_iff_eq.mpr c153
           have c153b1 : (t597 != 2) = false := bne_eq_false_iff_eq.mpr c153
           clear c153
           by_cases c154 : t607 ≥ (-1)
           ·rw [if_pos c154] at H
            have c154b0 : decide ((-1) ≤ t607) = true := decide_eq_true c154
            clear c154
            by_cases c155 : t607 < 10
            ·rw [if_pos c155] at H
             have c155b0 : decide (t607 < 10) = true := decide_eq_true c155
             clear c155
             by_cases c156 : t608 ≥ 1
             ·rw [if_pos c156] at H
              have c156b0 : decide (1 ≤ t608) = true := decide_eq_true c156
              clear c156
              by_cases c157 : t608 ≤ 2
              ·rw [if_pos c157] at H
               have c157b0 : decide (t608 ≤ 2) = true := decide_eq_true c157
               clear c157
               replace H := Option.bind_eq_some_iff.mp H; obtain ⟨t639, A1580, H⟩ := H; try dsimp only at H
               have A158 := Aside0.mk A1580
               clear A1580
               obtain rfl := Option.some.inj H
               have hnb159 := NB596_603.out
               have hnc159 := NB603_596.out
               have hnb160 := NB596_614.out
               have hnc160 := NB614_596.out
               have hnb161 := NB596_621.out
               have hnc161 := NB621_596.out
               have hcz162 := blk_all5 BK596.out
               go_upto_region 22 with (((with_reducible refine gate_dst (N := 16) rfl ?_); (try (refine gate_guard (by rfl) ?_; dsimp only)); refine sh_box 16 #[.int .u8 0, .int .u8 0, .int .u8 0, .int .i16 0, .int .i32 0] 24 ?_; intro gb632 hg w163 hbox hb; have GE632 := sh_z (w := w) hg; have NB596_632 := sh_n BK596 hg; have NB603_632 := sh_n BK603 hg; have NB614_632 := sh_n BK614 hg; have NB621_632 := sh_n BK621 hg; have NB632_596 := sh_s NB596_632; have NB632_603 := sh_s NB603_632; have NB632_614 := sh_s NB614_632; have NB632_621 := sh_s NB621_632; replace BK596 := sh_k BK596 hb; replace BK603 := sh_k BK603 hb; replace BK614 := sh_k BK614 hb; replace BK621 := sh_k BK621 hb; replace HB := sh_b (w := w) hb; have BK632 := Aside0.mk (hbox); clear hb hbox hg; have hnb164 := NB632_596.out; have hnc164 := NB596_632.out; have hnb165 := NB632_603.out; have hnc165 := NB603_632.out; have hnb166 := NB632_614.out; have hnc166 := NB614_632.out; have hnb167 := NB632_621.out; have hnc167 := NB621_632.out; have hcz168 := blk_all5 BK632.out))
               refine sh_gen (fun wg => Aside0 (wg.heap[gb596]? = some (.cells #[.int .u8 a0_0, .int .u8 a0_1, .int .u8 a0_2, .int .i16 a0_3, .int .i32 a0_4] 24 (0, 0))) ∧ Aside0 (wg.heap[gb603]? = some (.cells #[.int .i64 t597, .int .i64 t598, .int .i64 t599, .bool t600, .bool t601] 26 (0, 0))) ∧ Aside0 (wg.heap[gb614]? = some (.cells #[.int .u8 a0_0, .int .u8 a0_1, .int .u8 a0_2, .int .i16 a1, .int .i32 a0_4] 24 (0, 0))) ∧ Aside0 (wg.heap[gb621]? = some (.cells #[.int .i64 t615, .int .i64 t616, .int .i64 t617, .bool t618, .bool t619] 26 (0, 0))) ∧ Aside0 (wg.heap[gb632]? = some (.cells #[.int .u8 a0_0, .int .u8 a0_1, .int .u8 a0_2, .int .i16 a0_3, .int .i32 a2] 24 (0, 0))) ∧ Aside0 (Below w.heap.size w wg)) ⟨⟨bk_now⟩, ⟨bk_now⟩, ⟨bk_now⟩, ⟨bk_now⟩, ⟨bk_now⟩, ⟨b_now⟩⟩ ?_
               clear BK596 BK603 BK614 BK621 BK632 HB
               rintro wg ⟨BK596, BK603, BK614, BK621, BK632, HB⟩
               have hczg := blk_all5 BK632.out
               go_wp2_with (first | (go_at_call 12; (with_reducible refine (insn_Of.calls kj32 a0_0 a0_1 a0_2 a0_3 a2 t633 t634 t635 t636 t637 t638 _ ?side1 A151.out).mono ?_); (case side1 => exact Kd.C_below HRG0.out b_now); rintro e w169 ⟨rfl, hb⟩; replace BK596 := sh_kp (g := gb596) (t := 24) #[.int .u8 a0_0, .int .u8 a0_1, .int .u8 a0_2, .int .i16 a0_3, .int .i32 a0_4] hb; replace BK603 := sh_kp (g := gb603) (t := 26) #[.int .i64 t597, .int .i64 t598, .int .i64 t599, .bool t600, .bool t601] hb; replace BK614 := sh_kp (g := gb614) (t := 24) #[.int .u8 a0_0, .int .u8 a0_1, .int .u8 a0_2, .int .i16 a1, .int .i32 a0_4] hb; replace BK621 := sh_kp (g := gb621) (t := 26) #[.int .i64 t615, .int .i64 t616, .int .i64 t617, .bool t618, .bool t619] hb; replace BK632 := sh_kp (g := gb632) (t := 24) #[.int .u8 a0_0, .int .u8 a0_1, .int .u8 a0_2, .int .i16 a0_3, .int .i32 a2] hb; replace HB := sh_b (w := w) hb; (try clear hb); (try clear hb2); (try clear hk); (try clear hi); have hnb170 := NB621_603.out; have hnc170 := NB603_621.out; have hnb171 := NB621_614.out; have hnc171 := NB614_621.out; have hcz172 := blk_all5 BK621.out; have hnb173 := NB603_614.out; have hnc173 := NB614_603.out; have hcz174 := blk_all5 BK603.out) | (go_at_call 15; (with_reducible refine (stockadelaw02_wakes.calls kj32  t639 _ ?side1 (by first | rfl | exact HRT.out) A158.out).mono ?_); (case side1 => exact Kd.C_below HRG0.out b_now); rintro e w175 ⟨rfl, hb⟩; replace BK596 := sh_kp (g := gb596) (t := 24) #[.int .u8 a0_0, .int .u8 a0_1, .int .u8 a0_2, .int .i16 a0_3, .int .i32 a0_4] hb; replace BK603 := sh_kp (g := gb603) (t := 26) #[.int .i64 t597, .int .i64 t598, .int .i64 t599, .bool t600, .bool t601] hb; replace BK614 := sh_kp (g := gb614) (t := 24) #[.int .u8 a0_0, .int .u8 a0_1, .int .u8 a0_2, .int .i16 a1, .int .i32 a0_4] hb; replace BK621 := sh_kp (g := gb621) (t := 26) #[.int .i64 t633, .int .i64 t634, .int .i64 t635, .bool t636, .bool t637] hb; replace BK632 := sh_kp (g := gb632) (t := 24) #[.int .u8 a0_0, .int .u8 a0_1, .int .u8 a0_2, .int .i16 a0_3, .int .i32 a2] hb; replace HB := sh_b (w := w) hb; (try clear hb); (try clear hb2); (try clear hk); (try clear hi)))
               repeat (go_quiet (first | ((with_reducible refine gate_dst (N := 16) rfl ?_); (try (refine gate_guard (by rfl) ?_; dsimp only)); refine sh_box 16 #[.int .u8 0, .int .u8 0, .int .u8 0, .int .i16 0, .int .i32 0] 24 ?_; intro gb632 hg w163 hbox hb; have GE632 := sh_z (w := w) hg; have NB596_632 := sh_n BK596 hg; have NB603_632 := sh_n BK603 hg; have NB614_632 := sh_n BK614 hg; have NB621_632 := sh_n BK621 hg; have NB632_596 := sh_s NB596_632; have NB632_603 := sh_s NB603_632; have NB632_614 := sh_s NB614_632; have NB632_621 := sh_s NB621_632; replace BK596 := sh_k BK596 hb; replace BK603 := sh_k BK603 hb; replace BK614 := sh_k BK614 hb; replace BK621 := sh_k BK621 hb; replace HB := sh_b (w := w) hb; have BK632 := Aside0.mk (hbox); clear hb hbox hg; have hnb164 := NB632_596.out; have hnc164 := NB596_632.out; have hnb165 := NB632_603.out; have hnc165 := NB603_632.out; have hnb166 := NB632_614.out; have hnc166 := NB614_632.out; have hnb167 := NB632_621.out; have hnc167 := NB621_632.out; have hcz168 := blk_all5 BK632.out) | (go_at_call 12; (with_reducible refine (insn_Of.calls kj32 a0_0 a0_1 a0_2 a0_3 a2 t633 t634 t635 t636 t637 t638 _ ?side1 A151.out).mono ?_); (case side1 => exact Kd.C_below HRG0.out b_now); rintro e w169 ⟨rfl, hb⟩; replace BK596 := sh_kp (g := gb596) (t := 24) #[.int .u8 a0_0, .int .u8 a0_1, .int .u8 a0_2, .int .i16 a0_3, .int .i32 a0_4] hb; replace BK603 := sh_kp (g := gb603) (t := 26) #[.int .i64 t597, .int .i64 t598, .int .i64 t599, .bool t600, .bool t601] hb; replace BK614 := sh_kp (g := gb614) (t := 24) #[.int .u8 a0_0, .int .u8 a0_1, .int .u8 a0_2, .int .i16 a1, .int .i32 a0_4] hb; replace BK621 := sh_kp (g := gb621) (t := 26) #[.int .i64 t615, .int .i64 t616, .int .i64 t617, .bool t618, .bool t619] hb; replace BK632 := sh_kp (g := gb632) (t := 24) #[.int .u8 a0_0, .int .u8 a0_1, .int .u8 a0_2, .int .i16 a0_3, .int .i32 a2] hb; replace HB := sh_b (w := w) hb; (try clear hb); (try clear hb2); (try clear hk); (try clear hi); have hnb170 := NB621_603.out; have hnc170 := NB603_621.out; have hnb171 := NB621_614.out; have hnc171 := NB614_621.out; have hcz172 := blk_all5 BK621.out; have hnb173 := NB603_614.out; have hnc173 := NB614_603.out; have hcz174 := blk_all5 BK603.out) | (go_at_call 15; (with_reducible refine (stockadelaw02_wakes.calls kj32  t639 _ ?side1 (by first | rfl | exact HRT.out) A158.out).mono ?_); (case side1 => exact Kd.C_below HRG0.out b_now); rintro e w175 ⟨rfl, hb⟩; replace BK596 := sh_kp (g := gb596) (t := 24) #[.int .u8 a0_0, .int .u8 a0_1, .int .u8 a0_2, .int .i16 a0_3, .int .i32 a0_4] hb; replace BK603 := sh_kp (g := gb603) (t := 26) #[.int .i64 t597, .int .i64 t598, .int .i64 t599, .bool t600, .bool t601] hb; replace BK614 := sh_kp (g := gb614) (t := 24) #[.int .u8 a0_0, .int .u8 a0_1, .int .u8 a0_2, .int .i16 a1, .int .i32 a0_4] hb; replace BK621 := sh_kp (g := gb621) (t := 26) #[.int .i64 t633, .int .i64 t634, .int .i64 t635, .bool t636, .bool t637] hb; replace BK632 := sh_kp (g := gb632) (t := 24) #[.int .u8 a0_0, .int .u8 a0_1, .int .u8 a0_2, .int .i16 a0_3, .int .i32 a2] hb; replace HB := sh_b (w := w) hb; (try clear hb); (try clear hb2); (try clear hk); (try clear hi))); try go_wp2_with (first | ((with_reducible refine gate_dst (N := 16) rfl ?_); (try (refine gate_guard (by rfl) ?_; dsimp only)); refine sh_box 16 #[.int .u8 0, .int .u8 0, .int .u8 0, .int .i16 0, .int .i32 0] 24 ?_; intro gb632 hg w163 hbox hb; have GE632 := sh_z (w := w) hg; have NB596_632 := sh_n BK596 hg; have NB603_632 := sh_n BK603 hg; have NB614_632 := sh_n BK614 hg; have NB621_632 := sh_n BK621 hg; have NB632_596 := sh_s NB596_632; have NB632_603 := sh_s NB603_632; have NB632_614 := sh_s NB614_632; have NB632_621 := sh_s NB621_632; replace BK596 := sh_k BK596 hb; replace BK603 := sh_k BK603 hb; replace BK614 := sh_k BK614 hb; replace BK621 := sh_k BK621 hb; replace HB := sh_b (w := w) hb; have BK632 := Aside0.mk (hbox); clear hb hbox hg; have hnb164 := NB632_596.out; have hnc164 := NB596_632.out; have hnb165 := NB632_603.out; have hnc165 := NB603_632.out; have hnb166 := NB632_614.out; have hnc166 := NB614_632.out; have hnb167 := NB632_621.out; have hnc167 := NB621_632.out; have hcz168 := blk_all5 BK632.out) | (go_at_call 12; (with_reducible refine (insn_Of.calls kj32 a0_0 a0_1 a0_2 a0_3 a2 t633 t634 t635 t636 t637 t638 _ ?side1 A151.out).mono ?_); (case side1 => exact Kd.C_below HRG0.out b_now); rintro e w169 ⟨rfl, hb⟩; replace BK596 := sh_kp (g := gb596) (t := 24) #[.int .u8 a0_0, .int .u8 a0_1, .int .u8 a0_2, .int .i16 a0_3, .int .i32 a0_4] hb; replace BK603 := sh_kp (g := gb603) (t := 26) #[.int .i64 t597, .int .i64 t598, .int .i64 t599, .bool t600, .bool t601] hb; replace BK614 := sh_kp (g := gb614) (t := 24) #[.int .u8 a0_0, .int .u8 a0_1, .int .u8 a0_2, .int .i16 a1, .int .i32 a0_4] hb; replace BK621 := sh_kp (g := gb621) (t := 26) #[.int .i64 t615, .int .i64 t616, .int .i64 t617, .bool t618, .bool t619] hb; replace BK632 := sh_kp (g := gb632) (t := 24) #[.int .u8 a0_0, .int .u8 a0_1, .int .u8 a0_2, .int .i16 a0_3, .int .i32 a2] hb; replace HB := sh_b (w := w) hb; (try clear hb); (try clear hb2); (try clear hk); (try clear hi); have hnb170 := NB621_603.out; have hnc170 := NB603_621.out; have hnb171 := NB621_614.out; have hnc171 := NB614_621.out; have hcz172 := blk_all5 BK621.out; have hnb173 := NB603_614.out; have hnc173 := NB614_603.out; have hcz174 := blk_all5 BK603.out) | (go_at_call 15; (with_reducible refine (stockadelaw02_wakes.calls kj32  t639 _ ?side1 (by first | rfl | exact HRT.out) A158.out).mono ?_); (case side1 => exact Kd.C_below HRG0.out b_now); rintro e w175 ⟨rfl, hb⟩; replace BK596 := sh_kp (g := gb596) (t := 24) #[.int .u8 a0_0, .int .u8 a0_1, .int .u8 a0_2, .int .i16 a0_3, .int .i32 a0_4] hb; replace BK603 := sh_kp (g := gb603) (t := 26) #[.int .i64 t597, .int .i64 t598, .int .i64 t599, .bool t600, .bool t601] hb; replace BK614 := sh_kp (g := gb614) (t := 24) #[.int .u8 a0_0, .int .u8 a0_1, .int .u8 a0_2, .int .i16 a1, .int .i32 a0_4] hb; replace BK621 := sh_kp (g := gb621) (t := 26) #[.int .i64 t633, .int .i64 t634, .int .i64 t635, .bool t636, .bool t637] hb; replace BK632 := sh_kp (g := gb632) (t := 24) #[.int .u8 a0_0, .int .u8 a0_1, .int .u8 a0_2, .int .i16 a0_3, .int .i32 a2] hb; replace HB := sh_b (w := w) hb; (try clear hb); (try clear hb2); (try clear hk); (try clear hi))))
               go_ret
               exact ⟨ret_now, b_now⟩
              ·rw [if_neg c157] at H
               have c157b0 : decide (t608 ≤ 2) = false := decide_eq_false c157
               clear c157
               obtain rfl := Option.some.inj H
               exact absurd HRT.out (by simp)
             ·rw [if_neg c156] at H
              have c156b0 : decide (1 ≤ t608) = false := decide_eq_false c156
              clear c156
              obtain rfl := Option.some.inj H
              exact absurd HRT.out (by simp)
            ·rw [if_neg c155] at H
             have c155b0 : decide (t607 < 10) = false := decide_eq_false c155
             clear c155
             obtain rfl := Option.some.inj H
             exact absurd HRT.out (by simp)
           ·rw [if_neg c154] at H
            have c154b0 : decide ((-1) ≤ t607) = false := decide_eq_false c154
            clear c154
            obtain rfl := Option.some.inj H
            exact absurd HRT.out (by simp)
          ·rw [if_neg c153] at H
           have c153b0 : (t597 == 2) = false := beq_eq_false_iff_ne.mpr c153
           have c153b1 : (t597 != 2) = true := bne_iff_ne.mpr c153
           by_cases c176 : (t633 == t597 && (t634 == t598 && (t635 == t599 && (t636 == t600 && (t637 == t601))))) = true
           ·rw [if_pos c176] at H
            have c176b0 : (t633 == t597 && (t634 == t598 && (t635 == t599 && (t636 == t600 && (t637 == t601))))) = true := c176
            (try (have c176b1 : decide (t633 = t597 && (t634 == t598 && (t635 == t599 && (t636 == t600 && (t637 == t601))))) = true := by simpa using c176))
            (try (have c176b2 : (t633 == t597 && (t634 == t598 && (t635 == t599 && (t636 == t600 && (t637 == t601))))) = true := by simpa using c176))
            clear c176
            by_cases c177 : t607 ≥ (-1)
            ·rw [if_pos c177] at H
             have c177b0 : decide ((-1) ≤ t607) = true := decide_eq_true c177
             clear c177
             by_cases c178 : t607 < 10
             ·rw [if_pos c178] at H
              have c178b0 : decide (t607 < 10) = true := decide_eq_true c178
              clear c178
              by_cases c179 : t608 ≥ 1
              ·rw [if_pos c179] at H
               have c179b0 : decide (1 ≤ t608) = true := decide_eq_true c179
               clear c179
               by_cases c180 : t608 ≤ 2
               ·rw [if_pos c180] at H
                have c180b0 : decide (t608 ≤ 2) = true := decide_eq_true c180
                clear c180
                replace H := Option.bind_eq_some_iff.mp H; obtain ⟨t640, A1810, H⟩ := H; try dsimp only at H
                have A181 := Aside0.mk A1810
                clear A1810
                obtain rfl := Option.some.inj H
                have hnb182 := NB596_603.out
                have hnc182 := NB603_596.out
                have hnb183 := NB596_614.out
                have hnc183 := NB614_596.out
                have hnb184 := NB596_621.out
                have hnc184 := NB621_596.out
                have hcz185 := blk_all5 BK596.out
                go_upto_region 22 with (((with_reducible refine gate_dst (N := 16) rfl ?_); (try (refine gate_guard (by rfl) ?_; dsimp only)); refine sh_box 16 #[.int .u8 0, .int .u8 0, .int .u8 0, .int .i16 0, .int .i32 0] 24 ?_; intro gb632 hg w186 hbox hb; have GE632 := sh_z (w := w) hg; have NB596_632 := sh_n BK596 hg; have NB603_632 := sh_n BK603 hg; have NB614_632 := sh_n BK614 hg; have NB621_632 := sh_n BK621 hg; have NB632_596 := sh_s NB596_632; have NB632_603 := sh_s NB603_632; have NB632_614 := sh_s NB614_632; have NB632_621 := sh_s NB621_632; replace BK596 := sh_k BK596 hb; replace BK603 := sh_k BK603 hb; replace BK614 := sh_k BK614 hb; replace BK621 := sh_k BK621 hb; replace HB := sh_b (w := w) hb; have BK632 := Aside0.mk (hbox); clear hb hbox hg; have hnb187 := NB632_596.out; have hnc187 := NB596_632.out; have hnb188 := NB632_603.out; have hnc188 := NB603_632.out; have hnb189 := NB632_614.out; have hnc189 := NB614_632.out; have hnb190 := NB632_621.out; have hnc190 := NB621_632.out; have hcz191 := blk_all5 BK632.out))
                refine sh_gen (fun wg => Aside0 (wg.heap[gb596]? = some (.cells #[.int .u8 a0_0, .int .u8 a0_1, .int .u8 a0_2, .int .i16 a0_3, .int .i32 a0_4] 24 (0, 0))) ∧ Aside0 (wg.heap[gb603]? = some (.cells #[.int .i64 t597, .int .i64 t598, .int .i64 t599, .bool t600, .bool t601] 26 (0, 0))) ∧ Aside0 (wg.heap[gb614]? = some (.cells #[.int .u8 a0_0, .int .u8 a0_1, .int .u8 a0_2, .int .i16 a1, .int .i32 a0_4] 24 (0, 0))) ∧ Aside0 (wg.heap[gb621]? = some (.cells #[.int .i64 t615, .int .i64 t616, .int .i64 t617, .bool t618, .bool t619] 26 (0, 0))) ∧ Aside0 (wg.heap[gb632]? = some (.cells #[.int .u8 a0_0, .int .u8 a0_1, .int .u8 a0_2, .int .i16 a0_3, .int .i32 a2] 24 (0, 0))) ∧ Aside0 (Below w.heap.size w wg)) ⟨⟨bk_now⟩, ⟨bk_now⟩, ⟨bk_now⟩, ⟨bk_now⟩, ⟨bk_now⟩, ⟨b_now⟩⟩ ?_
                clear BK596 BK603 BK614 BK621 BK632 HB
                rintro wg ⟨BK596, BK603, BK614, BK621, BK632, HB⟩
                have hczg := blk_all5 BK632.out
                go_wp2_with (first | (go_at_call 12; (with_reducible refine (insn_Of.calls kj32 a0_0 a0_1 a0_2 a0_3 a2 t633 t634 t635 t636 t637 t638 _ ?side1 A151.out).mono ?_); (case side1 => exact Kd.C_below HRG0.out b_now); rintro e w192 ⟨rfl, hb⟩; replace BK596 := sh_kp (g := gb596) (t := 24) #[.int .u8 a0_0, .int .u8 a0_1, .int .u8 a0_2, .int .i16 a0_3, .int .i32 a0_4] hb; replace BK603 := sh_kp (g := gb603) (t := 26) #[.int .i64 t597, .int .i64 t598, .int .i64 t599, .bool t600, .bool t601] hb; replace BK614 := sh_kp (g := gb614) (t := 24) #[.int .u8 a0_0, .int .u8 a0_1, .int .u8 a0_2, .int .i16 a1, .int .i32 a0_4] hb; replace BK621 := sh_kp (g := gb621) (t := 26) #[.int .i64 t615, .int .i64 t616, .int .i64 t617, .bool t618, .bool t619] hb; replace BK632 := sh_kp (g := gb632) (t := 24) #[.int .u8 a0_0, .int .u8 a0_1, .int .u8 a0_2, .int .i16 a0_3, .int .i32 a2] hb; replace HB := sh_b (w := w) hb; (try clear hb); (try clear hb2); (try clear hk); (try clear hi); have hnb193 := NB621_603.out; have hnc193 := NB603_621.out; have hnb194 := NB621_614.out; have hnc194 := NB614_621.out; have hcz195 := blk_all5 BK621.out; have hnb196 := NB603_614.out; have hnc196 := NB614_603.out; have hcz197 := blk_all5 BK603.out) | (go_at_call 15; (with_reducible refine (stockadelaw02_wakes.calls kj32  t640 _ ?side1 (by first | rfl | exact HRT.out) A181.out).mono ?_); (case side1 => exact Kd.C_below HRG0.out b_now); rintro e w198 ⟨rfl, hb⟩; replace BK596 := sh_kp (g := gb596) (t := 24) #[.int .u8 a0_0, .int .u8 a0_1, .int .u8 a0_2, .int .i16 a0_3, .int .i32 a0_4] hb; replace BK603 := sh_kp (g := gb603) (t := 26) #[.int .i64 t597, .int .i64 t598, .int .i64 t599, .bool t600, .bool t601] hb; replace BK614 := sh_kp (g := gb614) (t := 24) #[.int .u8 a0_0, .int .u8 a0_1, .int .u8 a0_2, .int .i16 a1, .int .i32 a0_4] hb; replace BK621 := sh_kp (g := gb621) (t := 26) #[.int .i64 t633, .int .i64 t634, .int .i64 t635, .bool t636, .bool t637] hb; replace BK632 := sh_kp (g := gb632) (t := 24) #[.int .u8 a0_0, .int .u8 a0_1, .int .u8 a0_2, .int .i16 a0_3, .int .i32 a2] hb; replace HB := sh_b (w := w) hb; (try clear hb); (try clear hb2); (try clear hk); (try clear hi)))
                repeat (go_quiet (first | ((with_reducible refine gate_dst (N := 16) rfl ?_); (try (refine gate_guard (by rfl) ?_; dsimp only)); refine sh_box 16 #[.int .u8 0, .int .u8 0, .int .u8 0, .int .i16 0, .int .i32 0] 24 ?_; intro gb632 hg w186 hbox hb; have GE632 := sh_z (w := w) hg; have NB596_632 := sh_n BK596 hg; have NB603_632 := sh_n BK603 hg; have NB614_632 := sh_n BK614 hg; have NB621_632 := sh_n BK621 hg; have NB632_596 := sh_s NB596_632; have NB632_603 := sh_s NB603_632; have NB632_614 := sh_s NB614_632; have NB632_621 := sh_s NB621_632; replace BK596 := sh_k BK596 hb; replace BK603 := sh_k BK603 hb; replace BK614 := sh_k BK614 hb; replace BK621 := sh_k BK621 hb; replace HB := sh_b (w := w) hb; have BK632 := Aside0.mk (hbox); clear hb hbox hg; have hnb187 := NB632_596.out; have hnc187 := NB596_632.out; have hnb188 := NB632_603.out; have hnc188 := NB603_632.out; have hnb189 := NB632_614.out; have hnc189 := NB614_632.out; have hnb190 := NB632_621.out; have hnc190 := NB621_632.out; have hcz191 := blk_all5 BK632.out) | (go_at_call 12; (with_reducible refine (insn_Of.calls kj32 a0_0 a0_1 a0_2 a0_3 a2 t633 t634 t635 t636 t637 t638 _ ?side1 A151.out).mono ?_); (case side1 => exact Kd.C_below HRG0.out b_now); rintro e w192 ⟨rfl, hb⟩; replace BK596 := sh_kp (g := gb596) (t := 24) #[.int .u8 a0_0, .int .u8 a0_1, .int .u8 a0_2, .int .i16 a0_3, .int .i32 a0_4] hb; replace BK603 := sh_kp (g := gb603) (t := 26) #[.int .i64 t597, .int .i64 t598, .int .i64 t599, .bool t600, .bool t601] hb; replace BK614 := sh_kp (g := gb614) (t := 24) #[.int .u8 a0_0, .int .u8 a0_1, .int .u8 a0_2, .int .i16 a1, .int .i32 a0_4] hb; replace BK621 := sh_kp (g := gb621) (t := 26) #[.int .i64 t615, .int .i64 t616, .int .i64 t617, .bool t618, .bool t619] hb; replace BK632 := sh_kp (g := gb632) (t := 24) #[.int .u8 a0_0, .int .u8 a0_1, .int .u8 a0_2, .int .i16 a0_3, .int .i32 a2] hb; replace HB := sh_b (w := w) hb; (try clear hb); (try clear hb2); (try clear hk); (try clear hi); have hnb193 := NB621_603.out; have hnc193 := NB603_621.out; have hnb194 := NB621_614.out; have hnc194 := NB614_621.out; have hcz195 := blk_all5 BK621.out; have hnb196 := NB603_614.out; have hnc196 := NB614_603.out; have hcz197 := blk_all5 BK603.out) | (go_at_call 15; (with_reducible refine (stockadelaw02_wakes.calls kj32  t640 _ ?side1 (by first | rfl | exact HRT.out) A181.out).mono ?_); (case side1 => exact Kd.C_below HRG0.out b_now); rintro e w198 ⟨rfl, hb⟩; replace BK596 := sh_kp (g := gb596) (t := 24) #[.int .u8 a0_0, .int .u8 a0_1, .int .u8 a0_2, .int .i16 a0_3, .int .i32 a0_4] hb; replace BK603 := sh_kp (g := gb603) (t := 26) #[.int .i64 t597, .int .i64 t598, .int .i64 t599, .bool t600, .bool t601] hb; replace BK614 := sh_kp (g := gb614) (t := 24) #[.int .u8 a0_0, .int .u8 a0_1, .int .u8 a0_2, .int .i16 a1, .int .i32 a0_4] hb; replace BK621 := sh_kp (g := gb621) (t := 26) #[.int .i64 t633, .int .i64 t634, .int .i64 t635, .bool t636, .bool t637] hb; replace BK632 := sh_kp (g := gb632) (t := 24) #[.int .u8 a0_0, .int .u8 a0_1, .int .u8 a0_2, .int .i16 a0_3, .int .i32 a2] hb; replace HB := sh_b (w := w) hb; (try clear hb); (try clear hb2); (try clear hk); (try clear hi))); try go_wp2_with (first | ((with_reducible refine gate_dst (N := 16) rfl ?_); (try (refine gate_guard (by rfl) ?_; dsimp only)); refine sh_box 16 #[.int .u8 0, .int .u8 0, .int .u8 0, .int .i16 0, .int .i32 0] 24 ?_; intro gb632 hg w186 hbox hb; have GE632 := sh_z (w := w) hg; have NB596_632 := sh_n BK596 hg; have NB603_632 := sh_n BK603 hg; have NB614_632 := sh_n BK614 hg; have NB621_632 := sh_n BK621 hg; have NB632_596 := sh_s NB596_632; have NB632_603 := sh_s NB603_632; have NB632_614 := sh_s NB614_632; have NB632_621 := sh_s NB621_632; replace BK596 := sh_k BK596 hb; replace BK603 := sh_k BK603 hb; replace BK614 := sh_k BK614 hb; replace BK621 := sh_k BK621 hb; replace HB := sh_b (w := w) hb; have BK632 := Aside0.mk (hbox); clear hb hbox hg; have hnb187 := NB632_596.out; have hnc187 := NB596_632.out; have hnb188 := NB632_603.out; have hnc188 := NB603_632.out; have hnb189 := NB632_614.out; have hnc189 := NB614_632.out; have hnb190 := NB632_621.out; have hnc190 := NB621_632.out; have hcz191 := blk_all5 BK632.out) | (go_at_call 12; (with_reducible refine (insn_Of.calls kj32 a0_0 a0_1 a0_2 a0_3 a2 t633 t634 t635 t636 t637 t638 _ ?side1 A151.out).mono ?_); (case side1 => exact Kd.C_below HRG0.out b_now); rintro e w192 ⟨rfl, hb⟩; replace BK596 := sh_kp (g := gb596) (t := 24) #[.int .u8 a0_0, .int .u8 a0_1, .int .u8 a0_2, .int .i16 a0_3, .int .i32 a0_4] hb; replace BK603 := sh_kp (g := gb603) (t := 26) #[.int .i64 t597, .int .i64 t598, .int .i64 t599, .bool t600, .bool t601] hb; replace BK614 := sh_kp (g := gb614) (t := 24) #[.int .u8 a0_0, .int .u8 a0_1, .int .u8 a0_2, .int .i16 a1, .int .i32 a0_4] hb; replace BK621 := sh_kp (g := gb621) (t := 26) #[.int .i64 t615, .int .i64 t616, .int .i64 t617, .bool t618, .bool t619] hb; replace BK632 := sh_kp (g := gb632) (t := 24) #[.int .u8 a0_0, .int .u8 a0_1, .int .u8 a0_2, .int .i16 a0_3, .int .i32 a2] hb; replace HB := sh_b (w := w) hb; (try clear hb); (try clear hb2); (try clear hk); (try clear hi); have hnb193 := NB621_603.out; have hnc193 := NB603_621.out; have hnb194 := NB621_614.out; have hnc194 := NB614_621.out; have hcz195 := blk_all5 BK621.out; have hnb196 := NB603_614.out; have hnc196 := NB614_603.out; have hcz197 := blk_all5 BK603.out) | (go_at_call 15; (with_reducible refine (stockadelaw02_wakes.calls kj32  t640 _ ?side1 (by first | rfl | exact HRT.out) A181.out).mono ?_); (case side1 => exact Kd.C_below HRG0.out b_now); rintro e w198 ⟨rfl, hb⟩; replace BK596 := sh_kp (g := gb596) (t := 24) #[.int .u8 a0_0, .int .u8 a0_1, .int .u8 a0_2, .int .i16 a0_3, .int .i32 a0_4] hb; replace BK603 := sh_kp (g := gb603) (t := 26) #[.int .i64 t597, .int .i64 t598, .int .i64 t599, .bool t600, .bool t601] hb; replace BK614 := sh_kp (g := gb614) (t := 24) #[.int .u8 a0_0, .int .u8 a0_1, .int .u8 a0_2, .int .i16 a1, .int .i32 a0_4] hb; replace BK621 := sh_kp (g := gb621) (t := 26) #[.int .i64 t633, .int .i64 t634, .int .i64 t635, .bool t636, .bool t637] hb; replace BK632 := sh_kp (g := gb632) (t := 24) #[.int .u8 a0_0, .int .u8 a0_1, .int .u8 a0_2, .int .i16 a0_3, .int .i32 a2] hb; replace HB := sh_b (w := w) hb; (try clear hb); (try clear hb2); (try clear hk); (try clear hi))))
                go_ret
                exact ⟨ret_now, b_now⟩
               ·rw [if_neg c180] at H
                have c180b0 : decide (t608 ≤ 2) = false := decide_eq_false c180
                clear c180
                obtain rfl := Option.some.inj H
                exact absurd HRT.out (by simp)
              ·rw [if_neg c179] at H
               have c179b0 : decide (1 ≤ t608) = false := decide_eq_false c179
               clear c179
               obtain rfl := Option.some.inj H
               exact absurd HRT.out (by simp)
             ·rw [if_neg c178] at H
              have c178b0 : decide (t607 < 10) = false := decide_eq_false c178
              clear c178
              obtain rfl := Option.some.inj H
              exact absurd HRT.out (by simp)
            ·rw [if_neg c177] at H
             have c177b0 : decide ((-1) ≤ t607) = false := decide_eq_false c177
             clear c177
             obtain rfl := Option.some.inj H
             exact absurd HRT.out (by simp)
           ·rw [if_neg c176] at H
            have c176b0 : (t633 == t597 && (t634 == t598 && (t635 == t599 && (t636 == t600 && (t637 == t601))))) = false := by simpa using c176
            (try (have c176b1 : decide (t633 = t597 && (t634 == t598 && (t635 == t599 && (t636 == t600 && (t637 == t601))))) = false := by simpa using c176))
            (try (have c176b2 : (t633 == t597 && (t634 == t598 && (t635 == t599 && (t636 == t600 && (t637 == t601))))) = false := by simpa using c176))
            (try (have c176b3 : ¬ (t633 = t597 && (t634 == t598 && (t635 == t599 && (t636 == t600 && (t637 == t601))))) := by simpa using c176))
            clear c176
            obtain rfl := Option.some.inj H
            exact absurd HRT.out (by simp)
         ·rw [if_neg c152] at H
          have c152b0 : (t638 == 0) = false := beq_eq_false_iff_ne.mpr c152
          have c152b1 : (t638 != 0) = true := bne_iff_ne.mpr c152
          by_cases c199 : t607 ≥ (-1)
          ·rw [if_pos c199] at H
           have c199b0 : decide ((-1) ≤ t607) = true := decide_eq_true c199
           clear c199
           by_cases c200 : t607 < 10
           ·rw [if_pos c200] at H
            have c200b0 : decide (t607 < 10) = true := decide_eq_true c200
            clear c200
            by_cases c201 : t608 ≥ 1
            ·rw [if_pos c201] at H
             have c201b0 : decide (1 ≤ t608) = true := decide_eq_true c201
             clear c201
             by_cases c202 : t608 ≤ 2
             ·rw [if_pos c202] at H
              have c202b0 : decide (t608 ≤ 2) = true := decide_eq_true c202
              clear c202
              replace H := Option.bind_eq_some_iff.mp H; obtain ⟨t641, A2030, H⟩ := H; try dsimp only at H
              have A203 := Aside0.mk A2030
              clear A2030
              obtain rfl := Option.some.inj H
              have hnb204 := NB596_603.out
              have hnc204 := NB603_596.out
              have hnb205 := NB596_614.out
              have hnc205 := NB614_596.out
              have hnb206 := NB596_621.out
              have hnc206 := NB621_596.out
              have hcz207 := blk_all5 BK596.out
              go_upto_region 22 with (((with_reducible refine gate_dst (N := 16) rfl ?_); (try (refine gate_guard (by rfl) ?_; dsimp only)); refine sh_box 16 #[.int .u8 0, .int .u8 0, .int .u8 0, .int .i16 0, .int .i32 0] 24 ?_; intro gb632 hg w208 hbox hb; have GE632 := sh_z (w := w) hg; have NB596_632 := sh_n BK596 hg; have NB603_632 := sh_n BK603 hg; have NB614_632 := sh_n BK614 hg; have NB621_632 := sh_n BK621 hg; have NB632_596 := sh_s NB596_632; have NB632_603 := sh_s NB603_632; have NB632_614 := sh_s NB614_632; have NB632_621 := sh_s NB621_632; replace BK596 := sh_k BK596 hb; replace BK603 := sh_k BK603 hb; replace BK614 := sh_k BK614 hb; replace BK621 := sh_k BK621 hb; replace HB := sh_b (w := w) hb; have BK632 := Aside0.mk (hbox); clear hb hbox hg; have hnb209 := NB632_596.out; have hnc209 := NB596_632.out; have hnb210 := NB632_603.out; have hnc210 := NB603_632.out; have hnb211 := NB632_614.out; have hnc211 := NB614_632.out; have hnb212 := NB632_621.out; have hnc212 := NB621_632.out; have hcz213 := blk_all5 BK632.out))
              refine sh_gen (fun wg => Aside0 (wg.heap[gb596]? = some (.cells #[.int .u8 a0_0, .int .u8 a0_1, .int .u8 a0_2, .int .i16 a0_3, .int .i32 a0_4] 24 (0, 0))) ∧ Aside0 (wg.heap[gb603]? = some (.cells #[.int .i64 t597, .int .i64 t598, .int .i64 t599, .bool t600, .bool t601] 26 (0, 0))) ∧ Aside0 (wg.heap[gb614]? = some (.cells #[.int .u8 a0_0, .int .u8 a0_1, .int .u8 a0_2, .int .i16 a1, .int .i32 a0_4] 24 (0, 0))) ∧ Aside0 (wg.heap[gb621]? = some (.cells #[.int .i64 t615, .int .i64 t616, .int .i64 t617, .bool t618, .bool t619] 26 (0, 0))) ∧ Aside0 (wg.heap[gb632]? = some (.cells #[.int .u8 a0_0, .int .u8 a0_1, .int .u8 a0_2, .int .i16 a0_3, .int .i32 a2] 24 (0, 0))) ∧ Aside0 (Below w.heap.size w wg)) ⟨⟨bk_now⟩, ⟨bk_now⟩, ⟨bk_now⟩, ⟨bk_now⟩, ⟨bk_now⟩, ⟨b_now⟩⟩ ?_
              clear BK596 BK603 BK614 BK621 BK632 HB
              rintro wg ⟨BK596, BK603, BK614, BK621, BK632, HB⟩
              have hczg := blk_all5 BK632.out
              go_wp2_with (first | (go_at_call 12; (with_reducible refine (insn_Of.calls kj32 a0_0 a0_1 a0_2 a0_3 a2 t633 t634 t635 t636 t637 t638 _ ?side1 A151.out).mono ?_); (case side1 => exact Kd.C_below HRG0.out b_now); rintro e w214 ⟨rfl, hb⟩; replace BK596 := sh_kp (g := gb596) (t := 24) #[.int .u8 a0_0, .int .u8 a0_1, .int .u8 a0_2, .int .i16 a0_3, .int .i32 a0_4] hb; replace BK603 := sh_kp (g := gb603) (t := 26) #[.int .i64 t597, .int .i64 t598, .int .i64 t599, .bool t600, .bool t601] hb; replace BK614 := sh_kp (g := gb614) (t := 24) #[.int .u8 a0_0, .int .u8 a0_1, .int .u8 a0_2, .int .i16 a1, .int .i32 a0_4] hb; replace BK621 := sh_kp (g := gb621) (t := 26) #[.int .i64 t615, .int .i64 t616, .int .i64 t617, .bool t618, .bool t619] hb; replace BK632 := sh_kp (g := gb632) (t := 24) #[.int .u8 a0_0, .int .u8 a0_1, .int .u8 a0_2, .int .i16 a0_3, .int .i32 a2] hb; replace HB := sh_b (w := w) hb; (try clear hb); (try clear hb2); (try clear hk); (try clear hi); have hnb215 := NB621_603.out; have hnc215 := NB603_621.out; have hnb216 := NB621_614.out; have hnc216 := NB614_621.out; have hcz217 := blk_all5 BK621.out) | (go_at_call 15; (with_reducible refine (stockadelaw02_wakes.calls kj32  t641 _ ?side1 (by first | rfl | exact HRT.out) A203.out).mono ?_); (case side1 => exact Kd.C_below HRG0.out b_now); rintro e w218 ⟨rfl, hb⟩; replace BK596 := sh_kp (g := gb596) (t := 24) #[.int .u8 a0_0, .int .u8 a0_1, .int .u8 a0_2, .int .i16 a0_3, .int .i32 a0_4] hb; replace BK603 := sh_kp (g := gb603) (t := 26) #[.int .i64 t597, .int .i64 t598, .int .i64 t599, .bool t600, .bool t601] hb; replace BK614 := sh_kp (g := gb614) (t := 24) #[.int .u8 a0_0, .int .u8 a0_1, .int .u8 a0_2, .int .i16 a1, .int .i32 a0_4] hb; replace BK621 := sh_kp (g := gb621) (t := 26) #[.int .i64 t633, .int .i64 t634, .int .i64 t635, .bool t636, .bool t637] hb; replace BK632 := sh_kp (g := gb632) (t := 24) #[.int .u8 a0_0, .int .u8 a0_1, .int .u8 a0_2, .int .i16 a0_3, .int .i32 a2] hb; replace HB := sh_b (w := w) hb; (try clear hb); (try clear hb2); (try clear hk); (try clear hi)))
              repeat (go_quiet (first | ((with_reducible refine gate_dst (N := 16) rfl ?_); (try (refine gate_guard (by rfl) ?_; dsimp only)); refine sh_box 16 #[.int .u8 0, .int .u8 0, .int .u8 0, .int .i16 0, .int .i32 0] 24 ?_; intro gb632 hg w208 hbox hb; have GE632 := sh_z (w := w) hg; have NB596_632 := sh_n BK596 hg; have NB603_632 := sh_n BK603 hg; have NB614_632 := sh_n BK614 hg; have NB621_632 := sh_n BK621 hg; have NB632_596 := sh_s NB596_632; have NB632_603 := sh_s NB603_632; have NB632_614 := sh_s NB614_632; have NB632_621 := sh_s NB621_632; replace BK596 := sh_k BK596 hb; replace BK603 := sh_k BK603 hb; replace BK614 := sh_k BK614 hb; replace BK621 := sh_k BK621 hb; replace HB := sh_b (w := w) hb; have BK632 := Aside0.mk (hbox); clear hb hbox hg; have hnb209 := NB632_596.out; have hnc209 := NB596_632.out; have hnb210 := NB632_603.out; have hnc210 := NB603_632.out; have hnb211 := NB632_614.out; have hnc211 := NB614_632.out; have hnb212 := NB632_621.out; have hnc212 := NB621_632.out; have hcz213 := blk_all5 BK632.out) | (go_at_call 12; (with_reducible refine (insn_Of.calls kj32 a0_0 a0_1 a0_2 a0_3 a2 t633 t634 t635 t636 t637 t638 _ ?side1 A151.out).mono ?_); (case side1 => exact Kd.C_below HRG0.out b_now); rintro e w214 ⟨rfl, hb⟩; replace BK596 := sh_kp (g := gb596) (t := 24) #[.int .u8 a0_0, .int .u8 a0_1, .int .u8 a0_2, .int .i16 a0_3, .int .i32 a0_4] hb; replace BK603 := sh_kp (g := gb603) (t := 26) #[.int .i64 t597, .int .i64 t598, .int .i64 t599, .bool t600, .bool t601] hb; replace BK614 := sh_kp (g := gb614) (t := 24) #[.int .u8 a0_0, .int .u8 a0_1, .int .u8 a0_2, .int .i16 a1, .int .i32 a0_4] hb; replace BK621 := sh_kp (g := gb621) (t := 26) #[.int .i64 t615, .int .i64 t616, .int .i64 t617, .bool t618, .bool t619] hb; replace BK632 := sh_kp (g := gb632) (t := 24) #[.int .u8 a0_0, .int .u8 a0_1, .int .u8 a0_2, .int .i16 a0_3, .int .i32 a2] hb; replace HB := sh_b (w := w) hb; (try clear hb); (try clear hb2); (try clear hk); (try clear hi); have hnb215 := NB621_603.out; have hnc215 := NB603_621.out; have hnb216 := NB621_614.out; have hnc216 := NB614_621.out; have hcz217 := blk_all5 BK621.out) | (go_at_call 15; (with_reducible refine (stockadelaw02_wakes.calls kj32  t641 _ ?side1 (by first | rfl | exact HRT.out) A203.out).mono ?_); (case side1 => exact Kd.C_below HRG0.out b_now); rintro e w218 ⟨rfl, hb⟩; replace BK596 := sh_kp (g := gb596) (t := 24) #[.int .u8 a0_0, .int .u8 a0_1, .int .u8 a0_2, .int .i16 a0_3, .int .i32 a0_4] hb; replace BK603 := sh_kp (g := gb603) (t := 26) #[.int .i64 t597, .int .i64 t598, .int .i64 t599, .bool t600, .bool t601] hb; replace BK614 := sh_kp (g := gb614) (t := 24) #[.int .u8 a0_0, .int .u8 a0_1, .int .u8 a0_2, .int .i16 a1, .int .i32 a0_4] hb; replace BK621 := sh_kp (g := gb621) (t := 26) #[.int .i64 t633, .int .i64 t634, .int .i64 t635, .bool t636, .bool t637] hb; replace BK632 := sh_kp (g := gb632) (t := 24) #[.int .u8 a0_0, .int .u8 a0_1, .int .u8 a0_2, .int .i16 a0_3, .int .i32 a2] hb; replace HB := sh_b (w := w) hb; (try clear hb); (try clear hb2); (try clear hk); (try clear hi))); try go_wp2_with (first | ((with_reducible refine gate_dst (N := 16) rfl ?_); (try (refine gate_guard (by rfl) ?_; dsimp only)); refine sh_box 16 #[.int .u8 0, .int .u8 0, .int .u8 0, .int .i16 0, .int .i32 0] 24 ?_; intro gb632 hg w208 hbox hb; have GE632 := sh_z (w := w) hg; have NB596_632 := sh_n BK596 hg; have NB603_632 := sh_n BK603 hg; have NB614_632 := sh_n BK614 hg; have NB621_632 := sh_n BK621 hg; have NB632_596 := sh_s NB596_632; have NB632_603 := sh_s NB603_632; have NB632_614 := sh_s NB614_632; have NB632_621 := sh_s NB621_632; replace BK596 := sh_k BK596 hb; replace BK603 := sh_k BK603 hb; replace BK614 := sh_k BK614 hb; replace BK621 := sh_k BK621 hb; replace HB := sh_b (w := w) hb; have BK632 := Aside0.mk (hbox); clear hb hbox hg; have hnb209 := NB632_596.out; have hnc209 := NB596_632.out; have hnb210 := NB632_603.out; have hnc210 := NB603_632.out; have hnb211 := NB632_614.out; have hnc211 := NB614_632.out; have hnb212 := NB632_621.out; have hnc212 := NB621_632.out; have hcz213 := blk_all5 BK632.out) | (go_at_call 12; (with_reducible refine (insn_Of.calls kj32 a0_0 a0_1 a0_2 a0_3 a2 t633 t634 t635 t636 t637 t638 _ ?side1 A151.out).mono ?_); (case side1 => exact Kd.C_below HRG0.out b_now); rintro e w214 ⟨rfl, hb⟩; replace BK596 := sh_kp (g := gb596) (t := 24) #[.int .u8 a0_0, .int .u8 a0_1, .int .u8 a0_2, .int .i16 a0_3, .int .i32 a0_4] hb; replace BK603 := sh_kp (g := gb603) (t := 26) #[.int .i64 t597, .int .i64 t598, .int .i64 t599, .bool t600, .bool t601] hb; replace BK614 := sh_kp (g := gb614) (t := 24) #[.int .u8 a0_0, .int .u8 a0_1, .int .u8 a0_2, .int .i16 a1, .int .i32 a0_4] hb; replace BK621 := sh_kp (g := gb621) (t := 26) #[.int .i64 t615, .int .i64 t616, .int .i64 t617, .bool t618, .bool t619] hb; replace BK632 := sh_kp (g := gb632) (t := 24) #[.int .u8 a0_0, .int .u8 a0_1, .int .u8 a0_2, .int .i16 a0_3, .int .i32 a2] hb; replace HB := sh_b (w := w) hb; (try clear hb); (try clear hb2); (try clear hk); (try clear hi); have hnb215 := NB621_603.out; have hnc215 := NB603_621.out; have hnb216 := NB621_614.out; have hnc216 := NB614_621.out; have hcz217 := blk_all5 BK621.out) | (go_at_call 15; (with_reducible refine (stockadelaw02_wakes.calls kj32  t641 _ ?side1 (by first | rfl | exact HRT.out) A203.out).mono ?_); (case side1 => exact Kd.C_below HRG0.out b_now); rintro e w218 ⟨rfl, hb⟩; replace BK596 := sh_kp (g := gb596) (t := 24) #[.int .u8 a0_0, .int .u8 a0_1, .int .u8 a0_2, .int .i16 a0_3, .int .i32 a0_4] hb; replace BK603 := sh_kp (g := gb603) (t := 26) #[.int .i64 t597, .int .i64 t598, .int .i64 t599, .bool t600, .bool t601] hb; replace BK614 := sh_kp (g := gb614) (t := 24) #[.int .u8 a0_0, .int .u8 a0_1, .int .u8 a0_2, .int .i16 a1, .int .i32 a0_4] hb; replace BK621 := sh_kp (g := gb621) (t := 26) #[.int .i64 t633, .int .i64 t634, .int .i64 t635, .bool t636, .bool t637] hb; replace BK632 := sh_kp (g := gb632) (t := 24) #[.int .u8 a0_0, .int .u8 a0_1, .int .u8 a0_2, .int .i16 a0_3, .int .i32 a2] hb; replace HB := sh_b (w := w) hb; (try clear hb); (try clear hb2); (try clear hk); (try clear hi))))
              go_ret
              exact ⟨ret_now, b_now⟩
             ·rw [if_neg c202] at H
              have c202b0 : decide (t608 ≤ 2) = false := decide_eq_false c202
              clear c202
              obtain rfl := Option.some.inj H
              exact absurd HRT.out (by simp)
            ·rw [if_neg c201] at H
             have c201b0 : decide (1 ≤ t608) = false := decide_eq_false c201
             clear c201
             obtain rfl := Option.some.inj H
             exact absurd HRT.out (by simp)
           ·rw [if_neg c200] at H
            have c200b0 : decide (t607 < 10) = false := decide_eq_false c200
            clear c200
            obtain rfl := Option.some.inj H
            exact absurd HRT.out (by simp)
          ·rw [if_neg c199] at H
           have c199b0 : decide ((-1) ≤ t607) = false := decide_eq_false c199
           clear c199
           obtain rfl := Option.some.inj H
           exact absurd HRT.out (by simp)
 ·rw [if_neg c8] at H
  have c8b0 : (t602 == 0) = false := beq_eq_false_iff_ne.mpr c8
  have c8b1 : (t602 != 0) = true := bne_iff_ne.mpr c8
  by_cases c219 : (t597 == 0 && (t598 == 0 && (t599 == 0 && (!t600 && (!t601))))) = true
  ·rw [if_pos c219] at H
   have c219b0 : (t597 == 0 && (t598 == 0 && (t599 == 0 && (!t600 && (!t601))))) = true := c219
   (try (have c219b1 : decide (t597 = 0 && (t598 == 0 && (t599 == 0 && (!t600 && (!t601))))) = true := by simpa using c219))
   (try (have c219b2 : (t597 == 0 && (t598 == 0 && (t599 == 0 && (!t600 && (!t601))))) = true := by simpa using c219))
   clear c219
   by_cases c220 : (t604.length : Int) = 0
   ·rw [if_pos c220] at H
    have c220b0 : ((t604.length : Int) == 0) = true := beq_iff_eq.mpr c220
    have c220b1 : ((t604.length : Int) != 0) = false := bne_eq_false_iff_eq.mpr c220
    clear c220
    by_cases c221 : t607 = (-1)
    ·rw [if_pos c221] at H
     have c221b0 : (t607 == (-1)) = true := beq_iff_eq.mpr c221
     have c221b1 : (t607 != (-1)) = false := bne_eq_false_iff_eq.mpr c221
     clear c221
     by_cases c222 : t608 = 0
     ·rw [if_pos c222] at H
      have c222b0 : (t608 == 0) = true := beq_iff_eq.mpr c222
      have c222b1 : (t608 != 0) = false := bne_eq_false_iff_eq.mpr c222
      clear c222
      replace H := Option.bind_eq_some_iff.mp H; obtain ⟨t609, A2230, H⟩ := H; try dsimp only at H
      have A223 := Aside0.mk A2230
      clear A2230
      obtain rfl := Option.some.inj H
      go_enter Tryd.func10, Tryd.ntmps10
      go_wp2_with (first | ((with_reducible refine gate_dst (N := 3) rfl ?_); (try (refine gate_guard (by rfl) ?_; dsimp only)); refine sh_box 3 #[.int .u8 a0_0, .int .u8 a0_1, .int .u8 a0_2, .int .i16 a0_3, .int .i32 a0_4] 24 ?_; intro gb596 hg w224 hbox hb; have GE596 := sh_z (w := w) hg; replace HB := sh_b (w := w) hb; have BK596 := Aside0.mk (hbox); clear hb hbox hg; have hcz225 := blk_all5 BK596.out) | (go_at_call 12; (with_reducible refine (insn_Of.calls k a0_0 a0_1 a0_2 a0_3 a0_4 t597 t598 t599 t600 t601 t602 _ ?side1 A4.out).mono ?_); (case side1 => repeat (first | exact (Kd.C_below HRG0.out HB.out) | (with_reducible refine Kd.C_alloc ?_ _) | (with_reducible refine Kd.C_drewN ?_ _) | (with_reducible refine Kd.C_drew ?_))); rintro e w226 ⟨rfl, hb⟩; replace BK596 := sh_k BK596 hb; replace HB := sh_b (w := w) hb; (try clear hb); (try clear hb2); (try clear hk); (try clear hi)) | ((with_reducible refine gate_dst (N := 7) rfl ?_); (try (refine gate_guard (by rfl) ?_; dsimp only)); refine sh_box 7 #[.int .i64 0, .int .i64 0, .int .i64 0, .bool false, .bool false] 26 ?_; intro gb603 hg w227 hbox hb; have GE603 := sh_z (w := w) hg; have NB596_603 := sh_n BK596 hg; have NB603_596 := sh_s NB596_603; replace BK596 := sh_k BK596 hb; replace HB := sh_b (w := w) hb; have BK603 := Aside0.mk (hbox); clear hb hbox hg; have hnb228 := NB603_596.out; have hnc228 := NB596_603.out; have hcz229 := blk_all5 BK603.out; have hcz230 := blk_all5 BK596.out) | (go_at_call 24; (with_reducible refine (insn_Reads.calls k a0_0 a0_1 a0_2 a0_3 a0_4 t604 _ ?side1 A5.out).mono ?_); (case side1 => exact Kd.C_below HRG0.out b_now); rintro e w231 ⟨v605, rfl, ho0, hb⟩; have HO606 := Aside0.mk (Kd.R_lower ho0 (below_size b_now)); replace BK596 := sh_kp (g := gb596) (t := 24) #[.int .u8 a0_0, .int .u8 a0_1, .int .u8 a0_2, .int .i16 a0_3, .int .i32 a0_4] hb; replace BK603 := sh_kp (g := gb603) (t := 26) #[.int .i64 t597, .int .i64 t598, .int .i64 t599, .bool t600, .bool t601] hb; replace HB := sh_b (w := w) hb; (try clear hb); (try clear hb2); (try clear hk); (try clear hi); (try clear ho0); have hcz232 := blk_all5 BK596.out) | (go_at_call 26; (with_reducible refine (insn_Writes.calls k a0_0 a0_1 a0_2 a0_3 a0_4 t607 _ ?side1 A6.out).mono ?_); (case side1 => repeat (first | exact (Kd.C_below HRG0.out HB.out) | (with_reducible refine Kd.C_alloc ?_ _) | (with_reducible refine Kd.C_drewN ?_ _) | (with_reducible refine Kd.C_drew ?_))); rintro e w233 ⟨rfl, hb⟩; replace HO606 := Aside0.mk (Kd.R_below (by (with_reducible repeat (first | apply Kd.R_alloc | apply Kd.R_drewN | apply Kd.R_drew)); exact HO606.out) hb); replace BK596 := sh_k BK596 hb; replace BK603 := sh_k BK603 hb; replace HB := sh_b (w := w) hb; (try clear hb); (try clear hb2); (try clear hk); (try clear hi); have hcz234 := blk_all5 BK596.out) | (go_at_call 28; (with_reducible refine (insn_Places.calls k a0_0 a0_1 a0_2 a0_3 a0_4 t608 _ ?side1 A7.out).mono ?_); (case side1 => repeat (first | exact (Kd.C_below HRG0.out HB.out) | (with_reducible refine Kd.C_alloc ?_ _) | (with_reducible refine Kd.C_drewN ?_ _) | (with_reducible refine Kd.C_drew ?_))); rintro e w235 ⟨rfl, hb⟩; replace HO606 := Aside0.mk (Kd.R_below (by (with_reducible repeat (first | apply Kd.R_alloc | apply Kd.R_drewN | apply Kd.R_drew)); exact HO606.out) hb); replace BK596 := sh_k BK596 hb; replace BK603 := sh_k BK603 hb; replace HB := sh_b (w := w) hb; (try clear hb); (try clear hb2); (try clear hk); (try clear hi); have hcz236 := blk_all5 BK603.out; obtain ⟨Ao237, co237, eo237⟩ := Kd.R_slice HO606.out; subst eo237) | (go_at_call 15; (with_reducible refine (stockadelaw02_wakes.calls k  t609 _ ?side1 (by first | rfl | exact HRT.out) A223.out).mono ?_); (case side1 => repeat (first | exact (Kd.C_below HRG0.out HB.out) | (with_reducible refine Kd.C_alloc ?_ _) | (with_reducible refine Kd.C_drewN ?_ _) | (with_reducible refine Kd.C_drew ?_))); rintro e w238 ⟨rfl, hb⟩; replace HO606 := Aside0.mk (Kd.R_below (by (with_reducible repeat (first | apply Kd.R_alloc | apply Kd.R_drewN | apply Kd.R_drew)); exact HO606.out) hb); replace BK596 := sh_k BK596 hb; replace BK603 := sh_k BK603 hb; replace HB := sh_b (w := w) hb; (try clear hb); (try clear hb2); (try clear hk); (try clear hi)))
      repeat (go_quiet (first | ((with_reducible refine gate_dst (N := 3) rfl ?_); (try (refine gate_guard (by rfl) ?_; dsimp only)); refine sh_box 3 #[.int .u8 a0_0, .int .u8 a0_1, .int .u8 a0_2, .int .i16 a0_3, .int .i32 a0_4] 24 ?_; intro gb596 hg w224 hbox hb; have GE596 := sh_z (w := w) hg; replace HB := sh_b (w := w) hb; have BK596 := Aside0.mk (hbox); clear hb hbox hg; have hcz225 := blk_all5 BK596.out) | (go_at_call 12; (with_reducible refine (insn_Of.calls k a0_0 a0_1 a0_2 a0_3 a0_4 t597 t598 t599 t600 t601 t602 _ ?side1 A4.out).mono ?_); (case side1 => repeat (first | exact (Kd.C_below HRG0.out HB.out) | (with_reducible refine Kd.C_alloc ?_ _) | (with_reducible refine Kd.C_drewN ?_ _) | (with_reducible refine Kd.C_drew ?_))); rintro e w226 ⟨rfl, hb⟩; replace BK596 := sh_k BK596 hb; replace HB := sh_b (w := w) hb; (try clear hb); (try clear hb2); (try clear hk); (try clear hi)) | ((with_reducible refine gate_dst (N := 7) rfl ?_); (try (refine gate_guard (by rfl) ?_; dsimp only)); refine sh_box 7 #[.int .i64 0, .int .i64 0, .int .i64 0, .bool false, .bool false] 26 ?_; intro gb603 hg w227 hbox hb; have GE603 := sh_z (w := w) hg; have NB596_603 := sh_n BK596 hg; have NB603_596 := sh_s NB596_603; replace BK596 := sh_k BK596 hb; replace HB := sh_b (w := w) hb; have BK603 := Aside0.mk (hbox); clear hb hbox hg; have hnb228 := NB603_596.out; have hnc228 := NB596_603.out; have hcz229 := blk_all5 BK603.out; have hcz230 := blk_all5 BK596.out) | (go_at_call 24; (with_reducible refine (insn_Reads.calls k a0_0 a0_1 a0_2 a0_3 a0_4 t604 _ ?side1 A5.out).mono ?_); (case side1 => exact Kd.C_below HRG0.out b_now); rintro e w231 ⟨v605, rfl, ho0, hb⟩; have HO606 := Aside0.mk (Kd.R_lower ho0 (below_size b_now)); replace BK596 := sh_kp (g := gb596) (t := 24) #[.int .u8 a0_0, .int .u8 a0_1, .int .u8 a0_2, .int .i16 a0_3, .int .i32 a0_4] hb; replace BK603 := sh_kp (g := gb603) (t := 26) #[.int .i64 t597, .int .i64 t598, .int .i64 t599, .bool t600, .bool t601] hb; replace HB := sh_b (w := w) hb; (try clear hb); (try clear hb2); (try clear hk); (try clear hi); (try clear ho0); have hcz232 := blk_all5 BK596.out) | (go_at_call 26; (with_reducible refine (insn_Writes.calls k a0_0 a0_1 a0_2 a0_3 a0_4 t607 _ ?side1 A6.out).mono ?_); (case side1 => repeat (first | exact (Kd.C_below HRG0.out HB.out) | (with_reducible refine Kd.C_alloc ?_ _) | (with_reducible refine Kd.C_drewN ?_ _) | (with_reducible refine Kd.C_drew ?_))); rintro e w233 ⟨rfl, hb⟩; replace HO606 := Aside0.mk (Kd.R_below (by (with_reducible repeat (first | apply Kd.R_alloc | apply Kd.R_drewN | apply Kd.R_drew)); exact HO606.out) hb); replace BK596 := sh_k BK596 hb; replace BK603 := sh_k BK603 hb; replace HB := sh_b (w := w) hb; (try clear hb); (try clear hb2); (try clear hk); (try clear hi); have hcz234 := blk_all5 BK596.out) | (go_at_call 28; (with_reducible refine (insn_Places.calls k a0_0 a0_1 a0_2 a0_3 a0_4 t608 _ ?side1 A7.out).mono ?_); (case side1 => repeat (first | exact (Kd.C_below HRG0.out HB.out) | (with_reducible refine Kd.C_alloc ?_ _) | (with_reducible refine Kd.C_drewN ?_ _) | (with_reducible refine Kd.C_drew ?_))); rintro e w235 ⟨rfl, hb⟩; replace HO606 := Aside0.mk (Kd.R_below (by (with_reducible repeat (first | apply Kd.R_alloc | apply Kd.R_drewN | apply Kd.R_drew)); exact HO606.out) hb); replace BK596 := sh_k BK596 hb; replace BK603 := sh_k BK603 hb; replace HB := sh_b (w := w) hb; (try clear hb); (try clear hb2); (try clear hk); (try clear hi); have hcz236 := blk_all5 BK603.out; obtain ⟨Ao237, co237, eo237⟩ := Kd.R_slice HO606.out; subst eo237) | (go_at_call 15; (with_reducible refine (stockadelaw02_wakes.calls k  t609 _ ?side1 (by first | rfl | exact HRT.out) A223.out).mono ?_); (case side1 => repeat (first | exact (Kd.C_below HRG0.out HB.out) | (with_reducible refine Kd.C_alloc ?_ _) | (with_reducible refine Kd.C_drewN ?_ _) | (with_reducible refine Kd.C_drew ?_))); rintro e w238 ⟨rfl, hb⟩; replace HO606 := Aside0.mk (Kd.R_below (by (with_reducible repeat (first | apply Kd.R_alloc | apply Kd.R_drewN | apply Kd.R_drew)); exact HO606.out) hb); replace BK596 := sh_k BK596 hb; replace BK603 := sh_k BK603 hb; replace HB := sh_b (w := w) hb; (try clear hb); (try clear hb2); (try clear hk); (try clear hi))); try go_wp2_with (first | ((with_reducible refine gate_dst (N := 3) rfl ?_); (try (refine gate_guard (by rfl) ?_; dsimp only)); refine sh_box 3 #[.int .u8 a0_0, .int .u8 a0_1, .int .u8 a0_2, .int .i16 a0_3, .int .i32 a0_4] 24 ?_; intro gb596 hg w224 hbox hb; have GE596 := sh_z (w := w) hg; replace HB := sh_b (w := w) hb; have BK596 := Aside0.mk (hbox); clear hb hbox hg; have hcz225 := blk_all5 BK596.out) | (go_at_call 12; (with_reducible refine (insn_Of.calls k a0_0 a0_1 a0_2 a0_3 a0_4 t597 t598 t599 t600 t601 t602 _ ?side1 A4.out).mono ?_); (case side1 => repeat (first | exact (Kd.C_below HRG0.out HB.out) | (with_reducible refine Kd.C_alloc ?_ _) | (with_reducible refine Kd.C_drewN ?_ _) | (with_reducible refine Kd.C_drew ?_))); rintro e w226 ⟨rfl, hb⟩; replace BK596 := sh_k BK596 hb; replace HB := sh_b (w := w) hb; (try clear hb); (try clear hb2); (try clear hk); (try clear hi)) | ((with_reducible refine gate_dst (N := 7) rfl ?_); (try (refine gate_guard (by rfl) ?_; dsimp only)); refine sh_box 7 #[.int .i64 0, .int .i64 0, .int .i64 0, .bool false, .bool false] 26 ?_; intro gb603 hg w227 hbox hb; have GE603 := sh_z (w := w) hg; have NB596_603 := sh_n BK596 hg; have NB603_596 := sh_s NB596_603; replace BK596 := sh_k BK596 hb; replace HB := sh_b (w := w) hb; have BK603 := Aside0.mk (hbox); clear hb hbox hg; have hnb228 := NB603_596.out; have hnc228 := NB596_603.out; have hcz229 := blk_all5 BK603.out; have hcz230 := blk_all5 BK596.out) | (go_at_call 24; (with_reducible refine (insn_Reads.calls k a0_0 a0_1 a0_2 a0_3 a0_4 t604 _ ?side1 A5.out).mono ?_); (case side1 => exact Kd.C_below HRG0.out b_now); rintro e w231 ⟨v605, rfl, ho0, hb⟩; have HO606 := Aside0.mk (Kd.R_lower ho0 (below_size b_now)); replace BK596 := sh_kp (g := gb596) (t := 24) #[.int .u8 a0_0, .int .u8 a0_1, .int .u8 a0_2, .int .i16 a0_3, .int .i32 a0_4] hb; replace BK603 := sh_kp (g := gb603) (t := 26) #[.int .i64 t597, .int .i64 t598, .int .i64 t599, .bool t600, .bool t601] hb; replace HB := sh_b (w := w) hb; (try clear hb); (try clear hb2); (try clear hk); (try clear hi); (try clear ho0); have hcz232 := blk_all5 BK596.out) | (go_at_call 26; (with_reducible refine (insn_Writes.calls k a0_0 a0_1 a0_2 a0_3 a0_4 t607 _ ?side1 A6.out).mono ?_); (case side1 => repeat (first | exact (Kd.C_below HRG0.out HB.out) | (with_reducible refine Kd.C_alloc ?_ _) | (with_reducible refine Kd.C_drewN ?_ _) | (with_reducible refine Kd.C_drew ?_))); rintro e w233 ⟨rfl, hb⟩; replace HO606 := Aside0.mk (Kd.R_below (by (with_reducible repeat (first | apply Kd.R_alloc | apply Kd.R_drewN | apply Kd.R_drew)); exact HO606.out) hb); replace BK596 := sh_k BK596 hb; replace BK603 := sh_k BK603 hb; replace HB := sh_b (w := w) hb; (try clear hb); (try clear hb2); (try clear hk); (try clear hi); have hcz234 := blk_all5 BK596.out) | (go_at_call 28; (with_reducible refine (insn_Places.calls k a0_0 a0_1 a0_2 a0_3 a0_4 t608 _ ?side1 A7.out).mono ?_); (case side1 => repeat (first | exact (Kd.C_below HRG0.out HB.out) | (with_reducible refine Kd.C_alloc ?_ _) | (with_reducible refine Kd.C_drewN ?_ _) | (with_reducible refine Kd.C_drew ?_))); rintro e w235 ⟨rfl, hb⟩; replace HO606 := Aside0.mk (Kd.R_below (by (with_reducible repeat (first | apply Kd.R_alloc | apply Kd.R_drewN | apply Kd.R_drew)); exact HO606.out) hb); replace BK596 := sh_k BK596 hb; replace BK603 := sh_k BK603 hb; replace HB := sh_b (w := w) hb; (try clear hb); (try clear hb2); (try clear hk); (try clear hi); have hcz236 := blk_all5 BK603.out; obtain ⟨Ao237, co237, eo237⟩ := Kd.R_slice HO606.out; subst eo237) | (go_at_call 15; (with_reducible refine (stockadelaw02_wakes.calls k  t609 _ ?side1 (by first | rfl | exact HRT.out) A223.out).mono ?_); (case side1 => repeat (first | exact (Kd.C_below HRG0.out HB.out) | (with_reducible refine Kd.C_alloc ?_ _) | (with_reducible refine Kd.C_drewN ?_ _) | (with_reducible refine Kd.C_drew ?_))); rintro e w238 ⟨rfl, hb⟩; replace HO606 := Aside0.mk (Kd.R_below (by (with_reducible repeat (first | apply Kd.R_alloc | apply Kd.R_drewN | apply Kd.R_drew)); exact HO606.out) hb); replace BK596 := sh_k BK596 hb; replace BK603 := sh_k BK603 hb; replace HB := sh_b (w := w) hb; (try clear hb); (try clear hb2); (try clear hk); (try clear hi))))
      go_ret
      exact ⟨ret_now, b_now⟩
     ·rw [if_neg c222] at H
      have c222b0 : (t608 == 0) = false := beq_eq_false_iff_ne.mpr c222
      have c222b1 : (t608 != 0) = true := bne_iff_ne.mpr c222
      obtain rfl := Option.some.inj H
      exact absurd HRT.out (by simp)
    ·rw [if_neg c221] at H
     have c221b0 : (t607 == (-1)) = false := beq_eq_false_iff_ne.mpr c221
     have c221b1 : (t607 != (-1)) = true := bne_iff_ne.mpr c221
     obtain rfl := Option.some.inj H
     exact absurd HRT.out (by simp)
   ·rw [if_neg c220] at H
    have c220b0 : ((t604.length : Int) == 0) = false := beq_eq_false_iff_ne.mpr c220
    have c220b1 : ((t604.length : Int) != 0) = true := bne_iff_ne.mpr c220
    have c220b2 : ¬ (t604 = []) := fun h_ => c220 (by rw [h_]; rfl)
    obtain rfl := Option.some.inj H
    exact absurd HRT.out (by simp)
  ·rw [if_neg c219] at H
   have c219b0 : (t597 == 0 && (t598 == 0 && (t599 == 0 && (!t600 && (!t601))))) = false := by simpa using c219
   (try (have c219b1 : decide (t597 = 0 && (t598 == 0 && (t599 == 0 && (!t600 && (!t601))))) = false := by simpa using c219))
   (try (have c219b2 : (t597 == 0 && (t598 == 0 && (t599 == 0 && (!t600 && (!t601))))) = false := by simpa using c219))
   (try (have c219b3 : ¬ (t597 = 0 && (t598 == 0 && (t599 == 0 && (!t600 && (!t601))))) := by simpa using c219))
   clear c219
   obtain rfl := Option.some.inj H
   exact absurd HRT.out (by simp)

end Go.Proofs.YtkojjjdeacdabaaDoor.P
