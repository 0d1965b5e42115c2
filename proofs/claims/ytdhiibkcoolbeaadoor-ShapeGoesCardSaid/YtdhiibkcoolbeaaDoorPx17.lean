/- Made by this session's driver over the kit's printer: for each Go function a Lean function with the same answers, and a proof that the Go call comes to these answers; no conditions but the ones each theorem names. -/
import Derived.Test.YtdhiibkcoolbeaaDoorPx0
import Derived.Test.YtdhiibkcoolbeaaDoorPx6
import Derived.Test.YtdhiibkcoolbeaaDoorPx7
import Derived.Test.YtdhiibkcoolbeaaDoorPx8
import Derived.Test.YtdhiibkcoolbeaaDoorPx15
import Derived.Test.YtdhiibkcoolbeaaDoorPr
import Derived.Test.YtdhiibkcoolbeaaDoorPureAwake
import Derived.Test.YtdhiibkcoolbeaaDoorPxXXSt
namespace Go.Proofs.YtdhiibkcoolbeaaDoor.P
open Go.RowKit Go.Proofs.YtdhiibkcoolbeaaDoorW.PrintWords Go.Proofs.YtdhiibkcoolbeaaDoorW.PrintLast Go.Proofs.YtdhiibkcoolbeaaDoorW.PrintMore
attribute [local go_sem] max2_int min2_int max_two min_two max_three min_three max_four min_four   -- for this text's walks alone
set_option linter.unusedVariables false
set_option linter.unusedSimpArgs false

/-! ### stockadelaw04_ShapeGoes: function 5 -/
mutual
def stockadelaw04_ShapeGoes.j0 : Nat → Bool → List (S52) → List (S40) → Option (Bool)
 | 0, _, _, _ => none
 | k + 1, x16, x424000, x424001 => if x16 = true then ((stockadelaw04_awake.f).bind fun t426 => (some t426)) else ((shape_Starts.f x424001).bind fun t427 => (if (t427.length : Int) = (x424001.length : Int) then (if 0 < (t427.length : Int) then (stockadelaw04_ShapeGoes.j1 k t427 (!(rdOf false t427 0)) x424000 x424001) else (none)) else (stockadelaw04_ShapeGoes.j1 k t427 true x424000 x424001)))
def stockadelaw04_ShapeGoes.j1 : Nat → List Bool → Bool → List (S52) → List (S40) → Option (Bool)
 | 0, _, _, _, _ => none
 | k + 1, x3, x32, x424000, x424001 => if x32 = true then (some false) else (stockadelaw04_ShapeGoes.l0 k x3 x424001 (x424001.length : Int) 0 x424000 x424001)
def stockadelaw04_ShapeGoes.l0 : Nat → List Bool → List (S40) → Int → Int → List (S52) → List (S40) → Option (Bool)
 | 0, _, _, _, _, _, _ => none
 | k + 1, x3, x34, x35, x36, x424000, x424001 => if x36 < x35 then (if 0 ≤ x36 then (if x36 < (x34.length : Int) then (if x36 < (x3.length : Int) then (if rdOf false x3 x36 = true then ((insn_Of.f k ((rd_T40 x34 x36).f0) ((rd_T40 x34 x36).f1) ((rd_T40 x34 x36).f2) ((rd_T40 x34 x36).f3) ((rd_T40 x34 x36).f4)).bind fun bt434 => (if bt434.2.2.2.2.2 = 0 then ((insn_Places.f k ((rd_T40 x34 x36).f0) ((rd_T40 x34 x36).f1) ((rd_T40 x34 x36).f2) ((rd_T40 x34 x36).f3) ((rd_T40 x34 x36).f4)).bind fun t441 => (if bt434.1 = 7 then (stockadelaw04_ShapeGoes.j3 k x3 x36 (wrap64 (x36 + t441)) x34 x35 x36 false x424000 x424001 ((rd_T40 x34 x36).f0) ((rd_T40 x34 x36).f1) ((rd_T40 x34 x36).f2) ((rd_T40 x34 x36).f3) ((rd_T40 x34 x36).f4) bt434.1 bt434.2.1 bt434.2.2.1 bt434.2.2.2.1 bt434.2.2.2.2.1) else (if bt434.1 = 9 then (stockadelaw04_ShapeGoes.j3 k x3 x36 (wrap64 (x36 + t441)) x34 x35 x36 false x424000 x424001 ((rd_T40 x34 x36).f0) ((rd_T40 x34 x36).f1) ((rd_T40 x34 x36).f2) ((rd_T40 x34 x36).f3) ((rd_T40 x34 x36).f4) bt434.1 bt434.2.1 bt434.2.2.1 bt434.2.2.2.1 bt434.2.2.2.2.1) else (if (wrap64 (x36 + t441)) ≥ (x3.length : Int) then (stockadelaw04_ShapeGoes.j3 k x3 x36 (wrap64 (x36 + t441)) x34 x35 x36 true x424000 x424001 ((rd_T40 x34 x36).f0) ((rd_T40 x34 x36).f1) ((rd_T40 x34 x36).f2) ((rd_T40 x34 x36).f3) ((rd_T40 x34 x36).f4) bt434.1 bt434.2.1 bt434.2.2.1 bt434.2.2.2.1 bt434.2.2.2.2.1) else (if 0 ≤ (wrap64 (x36 + t441)) then (if (wrap64 (x36 + t441)) < (x3.length : Int) then (stockadelaw04_ShapeGoes.j3 k x3 x36 (wrap64 (x36 + t441)) x34 x35 x36 (!(rdOf false x3 (wrap64 (x36 + t441)))) x424000 x424001 ((rd_T40 x34 x36).f0) ((rd_T40 x34 x36).f1) ((rd_T40 x34 x36).f2) ((rd_T40 x34 x36).f3) ((rd_T40 x34 x36).f4) bt434.1 bt434.2.1 bt434.2.2.1 bt434.2.2.2.1 bt434.2.2.2.2.1) else (none)) else (none)))))) else (some false))) else (stockadelaw04_ShapeGoes.l0 k x3 x34 x35 (wrap64 (x36 + 1)) x424000 x424001)) else (none)) else (none)) else (none)) else (some true)
def stockadelaw04_ShapeGoes.j3 : Nat → List Bool → Int → Int → List (S40) → Int → Int → Bool → List (S52) → List (S40) → Int → Int → Int → Int → Int → Int → Int → Int → Bool → Bool → Option (Bool)
 | 0, _, _, _, _, _, _, _, _, _, _, _, _, _, _, _, _, _, _, _ => none
 | k + 1, x3, x4, x8, x34, x35, x36, x77, x424000, x424001, x433000, x433001, x433002, x433003, x433004, x441000, x441001, x441002, x441003, x441004 => if x77 = true then (some false) else (if x8 = (wrap64 (x4 + 2)) then (if 0 ≤ (wrap64 (x4 + 1)) then (if (wrap64 (x4 + 1)) < (x3.length : Int) then (stockadelaw04_ShapeGoes.j4 k x3 x4 x34 x35 x36 (rdOf false x3 (wrap64 (x4 + 1))) x424000 x424001 x433000 x433001 x433002 x433003 x433004 x441000 x441001 x441002 x441003 x441004) else (none)) else (none)) else (stockadelaw04_ShapeGoes.j4 k x3 x4 x34 x35 x36 false x424000 x424001 x433000 x433001 x433002 x433003 x433004 x441000 x441001 x441002 x441003 x441004))
def stockadelaw04_ShapeGoes.j4 : Nat → List Bool → Int → List (S40) → Int → Int → Bool → List (S52) → List (S40) → Int → Int → Int → Int → Int → Int → Int → Int → Bool → Bool → Option (Bool)
 | 0, _, _, _, _, _, _, _, _, _, _, _, _, _, _, _, _, _, _ => none
 | k + 1, x3, x4, x34, x35, x36, x88, x424000, x424001, x433000, x433001, x433002, x433003, x433004, x441000, x441001, x441002, x441003, x441004 => if x88 = true then (some false) else ((shape_Target.f x4 x433000 x433001 x433002 x433003 x433004).bind fun t444 => (if x441000 = 7 then (if t444 < 0 then (stockadelaw04_ShapeGoes.j5 k x3 x34 x35 x36 true x424000 x424001 x433000 x433001 x433002 x433003 x433004 x441000 x441001 x441002 x441003 x441004) else (if t444 ≥ (x3.length : Int) then (stockadelaw04_ShapeGoes.j5 k x3 x34 x35 x36 true x424000 x424001 x433000 x433001 x433002 x433003 x433004 x441000 x441001 x441002 x441003 x441004) else (if 0 ≤ t444 then (if t444 < (x3.length : Int) then (stockadelaw04_ShapeGoes.j5 k x3 x34 x35 x36 (!(rdOf false x3 t444)) x424000 x424001 x433000 x433001 x433002 x433003 x433004 x441000 x441001 x441002 x441003 x441004) else (none)) else (none)))) else (if x441000 = 6 then (if t444 < 0 then (stockadelaw04_ShapeGoes.j5 k x3 x34 x35 x36 true x424000 x424001 x433000 x433001 x433002 x433003 x433004 x441000 x441001 x441002 x441003 x441004) else (if t444 ≥ (x3.length : Int) then (stockadelaw04_ShapeGoes.j5 k x3 x34 x35 x36 true x424000 x424001 x433000 x433001 x433002 x433003 x433004 x441000 x441001 x441002 x441003 x441004) else (if 0 ≤ t444 then (if t444 < (x3.length : Int) then (stockadelaw04_ShapeGoes.j5 k x3 x34 x35 x36 (!(rdOf false x3 t444)) x424000 x424001 x433000 x433001 x433002 x433003 x433004 x441000 x441001 x441002 x441003 x441004) else (none)) else (none)))) else (stockadelaw04_ShapeGoes.j5 k x3 x34 x35 x36 false x424000 x424001 x433000 x433001 x433002 x433003 x433004 x441000 x441001 x441002 x441003 x441004))))
def stockadelaw04_ShapeGoes.j5 : Nat → List Bool → List (S40) → Int → Int → Bool → List (S52) → List (S40) → Int → Int → Int → Int → Int → Int → Int → Int → Bool → Bool → Option (Bool)
 | 0, _, _, _, _, _, _, _, _, _, _, _, _, _, _, _, _, _ => none
 | k + 1, x3, x34, x35, x36, x116, x424000, x424001, x433000, x433001, x433002, x433003, x433004, x441000, x441001, x441002, x441003, x441004 => if x116 = true then (some false) else (if x441000 = 11 then (if x433004 < 0 then (some false) else (if (wrap64 (x433004)) ≥ (x424000.length : Int) then (some false) else (if x441000 = 8 then ((shape_Helper.f x433004).bind fun t447 => (if t447 = true then (stockadelaw04_ShapeGoes.l0 k x3 x34 x35 (wrap64 (x36 + 1)) x424000 x424001) else (some false))) else (stockadelaw04_ShapeGoes.l0 k x3 x34 x35 (wrap64 (x36 + 1)) x424000 x424001)))) else (if x441000 = 8 then ((shape_Helper.f x433004).bind fun t448 => (if t448 = true then (stockadelaw04_ShapeGoes.l0 k x3 x34 x35 (wrap64 (x36 + 1)) x424000 x424001) else (some false))) else (stockadelaw04_ShapeGoes.l0 k x3 x34 x35 (wrap64 (x36 + 1)) x424000 x424001)))
end
def stockadelaw04_ShapeGoes.f (k : Nat) (l0_0 : List (S52)) (l0_1 : List (S40)) : Option (Bool) := (stockadelaw04_awake.f).bind fun t424 => (if t424 = true then ((stockadelaw04_right.f l0_0 l0_1).bind fun t425 => (stockadelaw04_ShapeGoes.j0 k (!t425) l0_0 l0_1)) else (stockadelaw04_ShapeGoes.j0 k true l0_0 l0_1))
theorem stockadelaw04_ShapeGoes.mono_l : ∀ k, (∀ y0 y1 y2, LeO (stockadelaw04_ShapeGoes.j0 k y0 y1 y2) (stockadelaw04_ShapeGoes.j0 (k + 1) y0 y1 y2)) ∧ (∀ y0 y1 y2 y3, LeO (stockadelaw04_ShapeGoes.j1 k y0 y1 y2 y3) (stockadelaw04_ShapeGoes.j1 (k + 1) y0 y1 y2 y3)) ∧ (∀ y0 y1 y2 y3 y4 y5, LeO (stockadelaw04_ShapeGoes.l0 k y0 y1 y2 y3 y4 y5) (stockadelaw04_ShapeGoes.l0 (k + 1) y0 y1 y2 y3 y4 y5)) ∧ (∀ y0 y1 y2 y3 y4 y5 y6 y7 y8 y9 y10 y11 y12 y13 y14 y15 y16 y17 y18, LeO (stockadelaw04_ShapeGoes.j3 k y0 y1 y2 y3 y4 y5 y6 y7 y8 y9 y10 y11 y12 y13 y14 y15 y16 y17 y18) (stockadelaw04_ShapeGoes.j3 (k + 1) y0 y1 y2 y3 y4 y5 y6 y7 y8 y9 y10 y11 y12 y13 y14 y15 y16 y17 y18)) ∧ (∀ y0 y1 y2 y3 y4 y5 y6 y7 y8 y9 y10 y11 y12 y13 y14 y15 y16 y17, LeO (stockadelaw04_ShapeGoes.j4 k y0 y1 y2 y3 y4 y5 y6 y7 y8 y9 y10 y11 y12 y13 y14 y15 y16 y17) (stockadelaw04_ShapeGoes.j4 (k + 1) y0 y1 y2 y3 y4 y5 y6 y7 y8 y9 y10 y11 y12 y13 y14 y15 y16 y17)) ∧ (∀ y0 y1 y2 y3 y4 y5 y6 y7 y8 y9 y10 y11 y12 y13 y14 y15 y16, LeO (stockadelaw04_ShapeGoes.j5 k y0 y1 y2 y3 y4 y5 y6 y7 y8 y9 y10 y11 y12 y13 y14 y15 y16) (stockadelaw04_ShapeGoes.j5 (k + 1) y0 y1 y2 y3 y4 y5 y6 y7 y8 y9 y10 y11 y12 y13 y14 y15 y16))
 | 0 => ⟨fun _ _ _ r h => by simp [stockadelaw04_ShapeGoes.j0] at h, fun _ _ _ _ r h => by simp [stockadelaw04_ShapeGoes.j1] at h, fun _ _ _ _ _ _ r h => by simp [stockadelaw04_ShapeGoes.l0] at h, fun _ _ _ _ _ _ _ _ _ _ _ _ _ _ _ _ _ _ _ r h => by simp [stockadelaw04_ShapeGoes.j3] at h, fun _ _ _ _ _ _ _ _ _ _ _ _ _ _ _ _ _ _ r h => by simp [stockadelaw04_ShapeGoes.j4] at h, fun _ _ _ _ _ _ _ _ _ _ _ _ _ _ _ _ _ r h => by simp [stockadelaw04_ShapeGoes.j5] at h⟩
 | k + 1 => by
  obtain ⟨ih0, ih1, ih2, ih3, ih4, ih5⟩ := stockadelaw04_ShapeGoes.mono_l k
  refine ⟨?_, ?_, ?_, ?_, ?_, ?_⟩
  ·intro y0 y1 y2
   unfold stockadelaw04_ShapeGoes.j0
   repeat' first
   | (with_reducible exact ih0 _ _ _)
   | (with_reducible exact ih1 _ _ _ _)
   | (with_reducible exact ih2 _ _ _ _ _ _)
   | (with_reducible exact ih3 _ _ _ _ _ _ _ _ _ _ _ _ _ _ _ _ _ _ _)
   | (with_reducible exact ih4 _ _ _ _ _ _ _ _ _ _ _ _ _ _ _ _ _ _)
   | (with_reducible exact ih5 _ _ _ _ _ _ _ _ _ _ _ _ _ _ _ _ _)
   | (with_reducible exact insn_Of.mono _ _ _ _ _ _)
   | (with_reducible exact insn_Places.mono _ _ _ _ _ _)
   | (with_reducible exact LeO.refl _)
   | (with_reducible exact LeO.none _)
   | (with_reducible refine LeO.ite ?_ ?_)
   | (with_reducible refine LeO.bind ?_ (fun _ => ?_))
   | exact ih0 _ _ _
   | exact ih1 _ _ _ _
   | exact ih2 _ _ _ _ _ _
   | exact ih3 _ _ _ _ _ _ _ _ _ _ _ _ _ _ _ _ _ _ _
   | exact ih4 _ _ _ _ _ _ _ _ _ _ _ _ _ _ _ _ _ _
   | exact ih5 _ _ _ _ _ _ _ _ _ _ _ _ _ _ _ _ _
   | exact insn_Of.mono _ _ _ _ _ _
   | exact insn_Places.mono _ _ _ _ _ _
   | exact LeO.none _
   | refine LeO.ite ?_ ?_
   | refine LeO.bind ?_ (fun _ => ?_)
  ·intro y0 y1 y2 y3
   unfold stockadelaw04_ShapeGoes.j1
   repeat' first
   | (with_reducible exact ih0 _ _ _)
   | (with_reducible exact ih1 _ _ _ _)
   | (with_reducible exact ih2 _ _ _ _ _ _)
   | (with_reducible exact ih3 _ _ _ _ _ _ _ _ _ _ _ _ _ _ _ _ _ _ _)
   | (with_reducible exact ih4 _ _ _ _ _ _ _ _ _ _ _ _ _ _ _ _ _ _)
   | (with_reducible exact ih5 _ _ _ _ _ _ _ _ _ _ _ _ _ _ _ _ _)
   | (with_reducible exact insn_Of.mono _ _ _ _ _ _)
   | (with_reducible exact insn_Places.mono _ _ _ _ _ _)
   | (with_reducible exact LeO.refl _)
   | (with_reducible exact LeO.none _)
   | (with_reducible refine LeO.ite ?_ ?_)
   | (with_reducible refine LeO.bind ?_ (fun _ => ?_))
   | exact ih0 _ _ _
   | exact ih1 _ _ _ _
   | exact ih2 _ _ _ _ _ _
   | exact ih3 _ _ _ _ _ _ _ _ _ _ _ _ _ _ _ _ _ _ _
   | exact ih4 _ _ _ _ _ _ _ _ _ _ _ _ _ _ _ _ _ _
   | exact ih5 _ _ _ _ _ _ _ _ _ _ _ _ _ _ _ _ _
   | exact insn_Of.mono _ _ _ _ _ _
   | exact insn_Places.mono _ _ _ _ _ _
   | exact LeO.none _
   | refine LeO.ite ?_ ?_
   | refine LeO.bind ?_ (fun _ => ?_)
  ·intro y0 y1 y2 y3 y4 y5
   unfold stockadelaw04_ShapeGoes.l0
   repeat' first
   | (with_reducible exact ih0 _ _ _)
   | (with_reducible exact ih1 _ _ _ _)
   | (with_reducible exact ih2 _ _ _ _ _ _)
   | (with_reducible exact ih3 _ _ _ _ _ _ _ _ _ _ _ _ _ _ _ _ _ _ _)
   | (with_reducible exact ih4 _ _ _ _ _ _ _ _ _ _ _ _ _ _ _ _ _ _)
   | (with_reducible exact ih5 _ _ _ _ _ _ _ _ _ _ _ _ _ _ _ _ _)
   | (with_reducible exact insn_Of.mono _ _ _ _ _ _)
   | (with_reducible exact insn_Places.mono _ _ _ _ _ _)
   | (with_reducible exact LeO.refl _)
   | (with_reducible exact LeO.none _)
   | (with_reducible refine LeO.ite ?_ ?_)
   | (with_reducible refine LeO.bind ?_ (fun _ => ?_))
   | exact ih0 _ _ _
   | exact ih1 _ _ _ _
   | exact ih2 _ _ _ _ _ _
   | exact ih3 _ _ _ _ _ _ _ _ _ _ _ _ _ _ _ _ _ _ _
   | exact ih4 _ _ _ _ _ _ _ _ _ _ _ _ _ _ _ _ _ _
   | exact ih5 _ _ _ _ _ _ _ _ _ _ _ _ _ _ _ _ _
   | exact insn_Of.mono _ _ _ _ _ _
   | exact insn_Places.mono _ _ _ _ _ _
   | exact LeO.none _
   | refine LeO.ite ?_ ?_
   | refine LeO.bind ?_ (fun _ => ?_)
  ·intro y0 y1 y2 y3 y4 y5 y6 y7 y8 y9 y10 y11 y12 y13 y14 y15 y16 y17 y18
   unfold stockadelaw04_ShapeGoes.j3
   repeat' first
   | (with_reducible exact ih0 _ _ _)
   | (with_reducible exact ih1 _ _ _ _)
   | (with_reducible exact ih2 _ _ _ _ _ _)
   | (with_reducible exact ih3 _ _ _ _ _ _ _ _ _ _ _ _ _ _ _ _ _ _ _)
   | (with_reducible exact ih4 _ _ _ _ _ _ _ _ _ _ _ _ _ _ _ _ _ _)
   | (with_reducible exact ih5 _ _ _ _ _ _ _ _ _ _ _ _ _ _ _ _ _)
   | (with_reducible exact insn_Of.mono _ _ _ _ _ _)
   | (with_reducible exact insn_Places.mono _ _ _ _ _ _)
   | (with_reducible exact LeO.refl _)
   | (with_reducible exact LeO.none _)
   | (with_reducible refine LeO.ite ?_ ?_)
   | (with_reducible refine LeO.bind ?_ (fun _ => ?_))
   | exact ih0 _ _ _
   | exact ih1 _ _ _ _
   | exact ih2 _ _ _ _ _ _
   | exact ih3 _ _ _ _ _ _ _ _ _ _ _ _ _ _ _ _ _ _ _
   | exact ih4 _ _ _ _ _ _ _ _ _ _ _ _ _ _ _ _ _ _
   | exact ih5 _ _ _ _ _ _ _ _ _ _ _ _ _ _ _ _ _
   | exact insn_Of.mono _ _ _ _ _ _
   | exact insn_Places.mono _ _ _ _ _ _
   | exact LeO.none _
   | refine LeO.ite ?_ ?_
   | refine LeO.bind ?_ (fun _ => ?_)
  ·intro y0 y1 y2 y3 y4 y5 y6 y7 y8 y9 y10 y11 y12 y13 y14 y15 y16 y17
   unfold stockadelaw04_ShapeGoes.j4
   repeat' first
   | (with_reducible exact ih0 _ _ _)
   | (with_reducible exact ih1 _ _ _ _)
   | (with_reducible exact ih2 _ _ _ _ _ _)
   | (with_reducible exact ih3 _ _ _ _ _ _ _ _ _ _ _ _ _ _ _ _ _ _ _)
   | (with_reducible exact ih4 _ _ _ _ _ _ _ _ _ _ _ _ _ _ _ _ _ _)
   | (with_reducible exact ih5 _ _ _ _ _ _ _ _ _ _ _ _ _ _ _ _ _)
   | (with_reducible exact insn_Of.mono _ _ _ _ _ _)
   | (with_reducible exact insn_Places.mono _ _ _ _ _ _)
   | (with_reducible exact LeO.refl _)
   | (with_reducible exact LeO.none _)
   | (with_reducible refine LeO.ite ?_ ?_)
   | (with_reducible refine LeO.bind ?_ (fun _ => ?_))
   | exact ih0 _ _ _
   | exact ih1 _ _ _ _
   | exact ih2 _ _ _ _ _ _
   | exact ih3 _ _ _ _ _ _ _ _ _ _ _ _ _ _ _ _ _ _ _
   | exact ih4 _ _ _ _ _ _ _ _ _ _ _ _ _ _ _ _ _ _
   | exact ih5 _ _ _ _ _ _ _ _ _ _ _ _ _ _ _ _ _
   | exact insn_Of.mono _ _ _ _ _ _
   | exact insn_Places.mono _ _ _ _ _ _
   | exact LeO.none _
   | refine LeO.ite ?_ ?_
   | refine LeO.bind ?_ (fun _ => ?_)
  ·intro y0 y1 y2 y3 y4 y5 y6 y7 y8 y9 y10 y11 y12 y13 y14 y15 y16
   unfold stockadelaw04_ShapeGoes.j5
   repeat' first
   | (with_reducible exact ih0 _ _ _)
   | (with_reducible exact ih1 _ _ _ _)
   | (with_reducible exact ih2 _ _ _ _ _ _)
   | (with_reducible exact ih3 _ _ _ _ _ _ _ _ _ _ _ _ _ _ _ _ _ _ _)
   | (with_reducible exact ih4 _ _ _ _ _ _ _ _ _ _ _ _ _ _ _ _ _ _)
   | (with_reducible exact ih5 _ _ _ _ _ _ _ _ _ _ _ _ _ _ _ _ _)
   | (with_reducible exact insn_Of.mono _ _ _ _ _ _)
   | (with_reducible exact insn_Places.mono _ _ _ _ _ _)
   | (with_reducible exact LeO.refl _)
   | (with_reducible exact LeO.none _)
   | (with_reducible refine LeO.ite ?_ ?_)
   | (with_reducible refine LeO.bind ?_ (fun _ => ?_))
   | exact ih0 _ _ _
   | exact ih1 _ _ _ _
   | exact ih2 _ _ _ _ _ _
   | exact ih3 _ _ _ _ _ _ _ _ _ _ _ _ _ _ _ _ _ _ _
   | exact ih4 _ _ _ _ _ _ _ _ _ _ _ _ _ _ _ _ _ _
   | exact ih5 _ _ _ _ _ _ _ _ _ _ _ _ _ _ _ _ _
   | exact insn_Of.mono _ _ _ _ _ _
   | exact insn_Places.mono _ _ _ _ _ _
   | exact LeO.none _
   | refine LeO.ite ?_ ?_
   | refine LeO.bind ?_ (fun _ => ?_)
theorem stockadelaw04_ShapeGoes.mono : ∀ a0 a1 k, LeO (stockadelaw04_ShapeGoes.f k a0 a1) (stockadelaw04_ShapeGoes.f (k + 1) a0 a1) := by
 intro a0 a1 k
 obtain ⟨ih0, ih1, ih2, ih3, ih4, ih5⟩ := stockadelaw04_ShapeGoes.mono_l k
 unfold stockadelaw04_ShapeGoes.f
 repeat' first
   | (with_reducible exact ih0 _ _ _)
   | (with_reducible exact ih1 _ _ _ _)
   | (with_reducible exact ih2 _ _ _ _ _ _)
   | (with_reducible exact ih3 _ _ _ _ _ _ _ _ _ _ _ _ _ _ _ _ _ _ _)
   | (with_reducible exact ih4 _ _ _ _ _ _ _ _ _ _ _ _ _ _ _ _ _ _)
   | (with_reducible exact ih5 _ _ _ _ _ _ _ _ _ _ _ _ _ _ _ _ _)
   | (with_reducible exact insn_Of.mono _ _ _ _ _ _)
   | (with_reducible exact insn_Places.mono _ _ _ _ _ _)
   | (with_reducible exact LeO.refl _)
   | (with_reducible exact LeO.none _)
   | (with_reducible refine LeO.ite ?_ ?_)
   | (with_reducible refine LeO.bind ?_ (fun _ => ?_))
   | exact ih0 _ _ _
   | exact ih1 _ _ _ _
   | exact ih2 _ _ _ _ _ _
   | exact ih3 _ _ _ _ _ _ _ _ _ _ _ _ _ _ _ _ _ _ _
   | exact ih4 _ _ _ _ _ _ _ _ _ _ _ _ _ _ _ _ _ _
   | exact ih5 _ _ _ _ _ _ _ _ _ _ _ _ _ _ _ _ _
   | exact insn_Of.mono _ _ _ _ _ _
   | exact insn_Places.mono _ _ _ _ _ _
   | exact LeO.none _
   | refine LeO.ite ?_ ?_
   | refine LeO.bind ?_ (fun _ => ?_)
set_option maxHeartbeats 8000000 in
set_option maxRecDepth 100000 in
theorem stockadelaw04_ShapeGoes.calls (k : Nat) (A0_0 : Option Addr) (c0_0 : Nat) (l0_0 : List (S52)) (A0_1 : Option Addr) (c0_1 : Nat) (l0_1 : List (S40)) (r : Bool) (w : World) (hr0_0 : Kd.C k52 w A0_0 l0_0.length l0_0) (hc0_0 : l0_0.length ≤ c0_0) (hr0_1 : Kd.C k40 w A0_1 l0_1.length l0_1) (hc0_1 : l0_1.length ≤ c0_1) (hrG0 : Kd.C (Kd.int .i64) w (some ⟨0, 0, none⟩) gl0.length gl0) (hr_ : r = true) (h : stockadelaw04_ShapeGoes.f k l0_0 l0_1 = some r) :
  Calls Tryd.prog 5 #[.agg #[.slice A0_0 l0_0.length c0_0, .slice A0_1 l0_1.length c0_1]] w fun e w' => e = .returned (.bool r) ∧ Below w.heap.size w w' := by
 have hu25 := Tryd.underlying25
 have hu40 := Tryd.underlying40
 have hu45 := Tryd.underlying45
 have HR0_0 := Aside0.mk hr0_0
 have HC0_0 := Aside0.mk hc0_0
 clear hr0_0 hc0_0
 have HR0_1 := Aside0.mk hr0_1
 have HC0_1 := Aside0.mk hc0_1
 clear hr0_1 hc0_1
 have HRG0 := Aside0.mk hrG0
 clear hrG0
 have HRT := Aside0.mk hr_
 clear hr_
 have HB := Aside0.mk (Below.refl w.heap.size w)
 have H : ((stockadelaw04_awake.f).bind fun t424 => (if t424 = true then ((stockadelaw04_right.f l0_0 l0_1).bind fun t425 => (stockadelaw04_ShapeGoes.j0 k (!t425) l0_0 l0_1)) else (stockadelaw04_ShapeGoes.j0 k true l0_0 l0_1))) = some r := h
 clear h
 have HC2 := Aside0.mk H
 clear H
 go_enter Tryd.func5, Tryd.ntmps5
 go_upto_region 1 with (first | ((with_reducible refine gate_dst (N := 1) rfl ?_); (try (refine gate_guard (by rfl) ?_; dsimp only)); refine sh_box 1 #[.slice A0_0 l0_0.length c0_0, .slice A0_1 l0_1.length c0_1] 25 ?_; intro gb423 hg w3 hbox hb; have GE423 := sh_z (w := w) hg; replace HB := sh_b (w := w) hb; have BK423 := Aside0.mk (hbox); clear hb hbox hg))
 (try simp only [Act.put, List.setIfInBounds_toArray, List.set_cons_zero, List.set_cons_succ])
 go_cut [16] (fun v16 wc => ∃ (kq : Nat) (x16_1 : Bool), v16 = .bool x16_1 ∧ Aside0 (stockadelaw04_ShapeGoes.j0 kq x16_1 l0_0 l0_1 = some r) ∧ Aside0 (kq ≤ k) ∧ Aside0 (wc.heap[gb423]? = some (.cells #[(.slice A0_0 l0_0.length c0_0), (.slice A0_1 l0_1.length c0_1)] 25 (0, 0))) ∧ Aside0 (Below w.heap.size w wc))
 case first =>
  have H := HC2.out
  clear HC2
  replace H := Option.bind_eq_some_iff.mp H; obtain ⟨t424, A40, H⟩ := H; try dsimp only at H
  have A4 := Aside0.mk A40
  clear A40
  by_cases c5 : t424 = true
  ·subst c5
   replace H := sh_t H
   replace H := Option.bind_eq_some_iff.mp H; obtain ⟨t425, A60, H⟩ := H; try dsimp only at H
   have A6 := Aside0.mk A60
   clear A60
   have H' := Aside0.mk H
   clear H
   go_wp2_with (first | ((with_reducible refine gate_callee (f := 13) rfl ?_); refine sh_call (some 10) Tryd.func13 #[] ?_; (with_reducible refine (stockadelaw04_awake.calls  true _ ?side1 (by first | rfl | exact HRT.out) A4.out).mono ?_); (case side1 => repeat (first | exact (Kd.C_below HRG0.out HB.out) | (with_reducible refine Kd.C_alloc ?_ _) | (with_reducible refine Kd.C_drewN ?_ _) | (with_reducible refine Kd.C_drew ?_))); rintro e w7 ⟨rfl, hb⟩; refine ⟨_, rfl, ?_⟩; replace BK423 := sh_k BK423 hb; replace HB := sh_b (w := w) hb; (try clear hb); (try clear hb2); (try clear hk); (try clear hi); have hcz8 := blk_all2 BK423.out) | (go_at_call 21; (with_reducible refine (stockadelaw04_right.calls _ _ l0_0 _ _ l0_1 t425 _ ?side1 ?side2 ?side3 ?side4 ?side5 A6.out).mono ?_); (case side1 => repeat (first | exact (Kd.C_below HR0_0.out HB.out) | (with_reducible refine Kd.C_alloc ?_ _) | (with_reducible refine Kd.C_drewN ?_ _) | (with_reducible refine Kd.C_drew ?_))); (case side2 => exact HC0_0.out); (case side3 => repeat (first | exact (Kd.C_below HR0_1.out HB.out) | (with_reducible refine Kd.C_alloc ?_ _) | (with_reducible refine Kd.C_drewN ?_ _) | (with_reducible refine Kd.C_drew ?_))); (case side4 => exact HC0_1.out); (case side5 => repeat (first | exact (Kd.C_below HRG0.out HB.out) | (with_reducible refine Kd.C_alloc ?_ _) | (with_reducible refine Kd.C_drewN ?_ _) | (with_reducible refine Kd.C_drew ?_))); rintro e w9 ⟨rfl, hb⟩; replace BK423 := sh_k BK423 hb; replace HB := sh_b (w := w) hb; (try clear hb); (try clear hb2); (try clear hk); (try clear hi)))
   go_meet
   case rel => exact ⟨_, (!t425), eq_now, H', ⟨by first | omega | exact Nat.le_refl _⟩, ⟨bk_now⟩, ⟨b_now⟩⟩
  ·replace c5 := Bool.eq_false_iff.mpr c5
   subst c5
   replace H := sh_f H
   have H' := Aside0.mk H
   clear H
   go_wp2_with (first | ((with_reducible refine gate_callee (f := 13) rfl ?_); refine sh_call (some 10) Tryd.func13 #[] ?_; (with_reducible refine (stockadelaw04_awake.calls  false _ ?side1 (Option.some.inj (A4.out.symm.trans Go.Proofs.YtdhiibkcoolbeaaDoor.Pure.awake_eq)) A4.out).mono ?_); (case side1 => repeat (first | exact (Kd.C_below HRG0.out HB.out) | (with_reducible refine Kd.C_alloc ?_ _) | (with_reducible refine Kd.C_drewN ?_ _) | (with_reducible refine Kd.C_drew ?_))); rintro e w10 ⟨rfl, hb⟩; refine ⟨_, rfl, ?_⟩; replace BK423 := sh_k BK423 hb; replace HB := sh_b (w := w) hb; (try clear hb); (try clear hb2); (try clear hk); (try clear hi)))
   go_meet
   case rel => exact ⟨_, (true), eq_now, H', ⟨by first | omega | exact Nat.le_refl _⟩, ⟨bk_now⟩, ⟨b_now⟩⟩
 case rest =>
  clear HC2
  try clear c1
  try clear p2
  try clear c5
  try clear hcz8
  obtain ⟨kq, x16_1, rfl, HA, HJ1, BK423, HB⟩ := hcut
  cases kq with
  | zero => exact absurd HA.out (by simp [stockadelaw04_ShapeGoes.j0])
  | succ kj1 =>
   have H := HA.out
   clear HA
   simp only [stockadelaw04_ShapeGoes.j0] at H
   by_cases c11 : x16_1 = true
   ·subst c11
    replace H := sh_t H
    replace H := Option.bind_eq_some_iff.mp H; obtain ⟨t426, A120, H⟩ := H; try dsimp only at H
    have A12 := Aside0.mk A120
    clear A120
    obtain rfl := Option.some.inj H
    go_wp2_with (first | ((with_reducible refine gate_callee (f := 13) rfl ?_); refine sh_call (some 17) Tryd.func13 #[] ?_; (with_reducible refine (stockadelaw04_awake.calls  t426 _ ?side1 (by first | rfl | exact HRT.out) A12.out).mono ?_); (case side1 => repeat (first | exact (Kd.C_below HRG0.out HB.out) | (with_reducible refine Kd.C_alloc ?_ _) | (with_reducible refine Kd.C_drewN ?_ _) | (with_reducible refine Kd.C_drew ?_))); rintro e w13 ⟨rfl, hb⟩; refine ⟨_, rfl, ?_⟩; replace BK423 := sh_k BK423 hb; replace HB := sh_b (w := w) hb; (try clear hb); (try clear hb2); (try clear hk); (try clear hi)))
    go_ret
    exact ⟨ret_now, b_now⟩
   ·replace c11 := Bool.eq_false_iff.mpr c11
    subst c11
    replace H := sh_f H
    replace H := Option.bind_eq_some_iff.mp H; obtain ⟨t427, A140, H⟩ := H; try dsimp only at H
    have A14 := Aside0.mk A140
    clear A140
    have HC15 := Aside0.mk H
    clear H
    have hcz16 := blk_all2 BK423.out
    go_upto_region 4 with (first | ((with_reducible refine gate_callee (f := 15) rfl ?_); refine sh_call (some 20) Tryd.func15 #[.slice A0_1 l0_1.length c0_1] ?_; (with_reducible refine (shape_Starts.calls _ _ l0_1 t427 _ ?side1 ?side2 ?side3 A14.out).mono ?_); (case side1 => repeat (first | exact (Kd.C_below HR0_1.out HB.out) | (with_reducible refine Kd.C_alloc ?_ _) | (with_reducible refine Kd.C_drewN ?_ _) | (with_reducible refine Kd.C_drew ?_))); (case side2 => exact HC0_1.out); (case side3 => repeat (first | exact (Kd.C_below HRG0.out HB.out) | (with_reducible refine Kd.C_alloc ?_ _) | (with_reducible refine Kd.C_drewN ?_ _) | (with_reducible refine Kd.C_drew ?_))); rintro e w17 ⟨v428, rfl, ho0, hb⟩; refine ⟨_, rfl, ?_⟩; have HO429 := Aside0.mk (Kd.R_lower ho0 (below_size b_now)); replace BK423 := sh_k BK423 hb; replace HB := sh_b (w := w) hb; (try clear hb); (try clear hb2); (try clear hk); (try clear hi); (try clear ho0)))
    (try simp only [Act.put, List.setIfInBounds_toArray, List.set_cons_zero, List.set_cons_succ])
    go_cut [32] (fun v32 wc => ∃ (kq : Nat) (x32_14 : Bool), v32 = .bool x32_14 ∧ Aside0 (stockadelaw04_ShapeGoes.j1 kq t427 x32_14 l0_0 l0_1 = some r) ∧ Aside0 (kq ≤ kj1) ∧ Aside0 (Kd.R Kd.bool 4 wc w.heap.size (fun _ => True) v428 t427) ∧ Aside0 (wc.heap[gb423]? = some (.cells #[(.slice A0_0 l0_0.length c0_0), (.slice A0_1 l0_1.length c0_1)] 25 (0, 0))) ∧ Aside0 (Below w.heap.size w wc))
    case first =>
     have H := HC15.out
     clear HC15
     by_cases c18 : (t427.length : Int) = (l0_1.length : Int)
     ·rw [if_pos c18] at H
      have c18b0 : ((t427.length : Int) == (l0_1.length : Int)) = true := beq_iff_eq.mpr c18
      have c18b1 : ((t427.length : Int) != (l0_1.length : Int)) = false := bne_eq_false_iff_eq.mpr c18
      have c18b2 : (t427.length == l0_1.length) = true := by first | simpa using c18 | (simp at c18 ⊢; omega)
      clear c18
      (first | rw [c18b0] | (simp only [i64_w, i32_w]; rw [c18b0]) | skip)
      by_cases c19 : 0 < (t427.length : Int)
      ·rw [if_pos c19] at H
       have c19b0 : decide (0 < (t427.length : Int)) = true := decide_eq_true c19
       have c19b1 : decide (0 < t427.length) = true := decide_eq_true (by omega)
       clear c19
       have H' := Aside0.mk H
       clear H
       obtain ⟨Ao20, co20, eo20⟩ := Kd.R_slice HO429.out
       subst eo20
       have hcz21 := blk_all2 BK423.out
       have p430 : 0 ≤ (0 : Int) := (by omega)
       have q430 : 0 < (t427.length : Int) := of_decide_eq_true (by first | (with_reducible assumption) | assumption)
       obtain ⟨ad430, e430, hx430_0⟩ := Kd.at_bool (Kd.R_reads' HO429.out).2.2 0 p430 q430
       cases e430
       have qi430 : (0 < t427.length) = True := eq_true (by omega)
       (try rw [show ((0 : Int)).toNat = 0 from rfl] at hx430_0)
       (try rw [Addr.add_zero'] at hx430_0)
       replace p430 := eq_true p430
       replace q430 := eq_true q430
       go_wp2
       go_meet
       case rel => exact ⟨_, (!(rdOf false t427 0)), eq_now, H', ⟨by have := HJ1.out; first | omega | exact Nat.le_refl _⟩, ⟨by (with_reducible repeat (first | apply Kd.R_alloc | apply Kd.R_drewN | apply Kd.R_drew)); exact HO429.out⟩, ⟨bk_now⟩, ⟨b_now⟩⟩
      ·rw [if_neg c19] at H
       exact absurd H (by simp)
     ·rw [if_neg c18] at H
      have c18b0 : ((t427.length : Int) == (l0_1.length : Int)) = false := beq_eq_false_iff_ne.mpr c18
      have c18b1 : ((t427.length : Int) != (l0_1.length : Int)) = true := bne_iff_ne.mpr c18
      have c18b2 : (t427.length == l0_1.length) = false := by first | simpa using c18 | (simp at c18 ⊢; omega)
      (first | rw [c18b0] | (simp only [i64_w, i32_w]; rw [c18b0]) | skip)
      have H' := Aside0.mk H
      clear H
      obtain ⟨Ao22, co22, eo22⟩ := Kd.R_slice HO429.out
      subst eo22
      have hcz23 := blk_all2 BK423.out
      go_wp2
      go_meet
      case rel => exact ⟨_, (true), eq_now, H', ⟨by have := HJ1.out; first | omega | exact Nat.le_refl _⟩, ⟨by (with_reducible repeat (first | apply Kd.R_alloc | apply Kd.R_drewN | apply Kd.R_drew)); exact HO429.out⟩, ⟨bk_now⟩, ⟨b_now⟩⟩
    case rest =>
     clear HC15
     try clear c1
     try clear p2
     try clear p4
     try clear q4
     try clear hx4
     try clear qi4
     try clear c5
     try clear c11
     try clear c13
     try clear c15
     try clear c18
     try clear c18b0
     try clear c18b1
     try clear c18b2
     try clear c19
     try clear c19b0
     try clear c19b1
     try clear hcz16
     try clear hcz21
     try clear hcz23
     try clear hcz8
     try clear hx430_0
     try clear p2
     try clear p430
     try clear q430
     obtain ⟨kq, x32_14, rfl, HA, HJ14, HO_3, BK423, HB⟩ := hcut
     cases kq with
     | zero => exact absurd HA.out (by simp [stockadelaw04_ShapeGoes.j1])
     | succ kj14 =>
      have H := HA.out
      clear HA
      simp only [stockadelaw04_ShapeGoes.j1] at H
      by_cases c24 : x32_14 = true
      ·subst c24
       replace H := sh_t H
       obtain rfl := Option.some.inj H
       exact absurd HRT.out (by simp)
      ·replace c24 := Bool.eq_false_iff.mpr c24
       subst c24
       replace H := sh_f H
       have H' := Aside0.mk H
       clear H
       have hcz25 := blk_all2 BK423.out
       go_wp2
       go_loopg [36] kj14 (fun kq v36 w' => ∃ (x36_3 : Int), v36 = .int .i64 x36_3 ∧ Aside0 (stockadelaw04_ShapeGoes.l0 kq t427 l0_1 (l0_1.length : Int) x36_3 l0_0 l0_1 = some r) ∧ Aside0 (kq ≤ kj14) ∧ Aside0 (Kd.R Kd.bool 4 w' w.heap.size (fun _ => True) v428 t427) ∧ Aside0 (w'.heap[gb423]? = some (.cells #[(.slice A0_0 l0_0.length c0_0), (.slice A0_1 l0_1.length c0_1)] 25 (0, 0))) ∧ Aside0 (Below w.heap.size w w'))
       case atStart => exact ⟨(0), eq_now, H', ⟨Nat.le_refl _⟩, ⟨by (with_reducible repeat (first | apply Kd.R_alloc | apply Kd.R_drewN | apply Kd.R_drew)); exact HO_3.out⟩, ⟨bk_now⟩, ⟨b_now⟩⟩
       case round =>
        clear H'
        try clear c1
        try clear c2
        try clear p2
        try clear p4
        try clear q4
        try clear hx4
        try clear qi4
        try clear c5
        try clear c11
        try clear c13
        try clear c15
        try clear c18
        try clear c18b0
        try clear c18b1
        try clear c18b2
        try clear c19
        try clear c19b0
        try clear c19b1
        try clear c24
        try clear hcz16
        try clear hcz21
        try clear hcz23
        try clear hcz25
        try clear hcz8
        try clear hx430_0
        try clear p2
        try clear p4
        try clear p430
        try clear q4
        try clear q430
        obtain ⟨x36_3, rfl, HA, HK3, HO_3, BK423, HB⟩ := hrel
        cases gk with
        | zero => exact absurd HA.out (by simp [stockadelaw04_ShapeGoes.l0])
        | succ k3 =>
         have H := HA.out
         clear HA
         simp only [stockadelaw04_ShapeGoes.l0] at H
         by_cases c26 : x36_3 < (l0_1.length : Int)
         ·rw [if_pos c26] at H
          have c26b0 : decide (x36_3 < (l0_1.length : Int)) = true := decide_eq_true c26
          clear c26
          by_cases c27 : 0 ≤ x36_3
          ·rw [if_pos c27] at H
           have c27b0 : decide (0 ≤ x36_3) = true := decide_eq_true c27
           clear c27
           by_cases c28 : x36_3 < (l0_1.length : Int)
           ·rw [if_pos c28] at H
            have c28b0 : decide (x36_3 < (l0_1.length : Int)) = true := decide_eq_true c28
            clear c28
            by_cases c29 : x36_3 < (t427.length : Int)
            ·rw [if_pos c29] at H
             have c29b0 : decide (x36_3 < (t427.length : Int)) = true := decide_eq_true c29
             clear c29
             obtain ⟨bq30, hbq30⟩ : ∃ b_ : Bool, b_ = (rdOf false t427 x36_3) := ⟨_, rfl⟩
             replace H : (if bq30 = true then ((insn_Of.f k3 ((rd_T40 l0_1 x36_3).f0) ((rd_T40 l0_1 x36_3).f1) ((rd_T40 l0_1 x36_3).f2) ((rd_T40 l0_1 x36_3).f3) ((rd_T40 l0_1 x36_3).f4)).bind fun bt434 => (if bt434.2.2.2.2.2 = 0 then ((insn_Places.f k3 ((rd_T40 l0_1 x36_3).f0) ((rd_T40 l0_1 x36_3).f1) ((rd_T40 l0_1 x36_3).f2) ((rd_T40 l0_1 x36_3).f3) ((rd_T40 l0_1 x36_3).f4)).bind fun t441 => (if bt434.1 = 7 then (stockadelaw04_ShapeGoes.j3 k3 t427 x36_3 (wrap64 (x36_3 + t441)) l0_1 (l0_1.length : Int) x36_3 false l0_0 l0_1 ((rd_T40 l0_1 x36_3).f0) ((rd_T40 l0_1 x36_3).f1) ((rd_T40 l0_1 x36_3).f2) ((rd_T40 l0_1 x36_3).f3) ((rd_T40 l0_1 x36_3).f4) bt434.1 bt434.2.1 bt434.2.2.1 bt434.2.2.2.1 bt434.2.2.2.2.1) else (if bt434.1 = 9 then (stockadelaw04_ShapeGoes.j3 k3 t427 x36_3 (wrap64 (x36_3 + t441)) l0_1 (l0_1.length : Int) x36_3 false l0_0 l0_1 ((rd_T40 l0_1 x36_3).f0) ((rd_T40 l0_1 x36_3).f1) ((rd_T40 l0_1 x36_3).f2) ((rd_T40 l0_1 x36_3).f3) ((rd_T40 l0_1 x36_3).f4) bt434.1 bt434.2.1 bt434.2.2.1 bt434.2.2.2.1 bt434.2.2.2.2.1) else (if (wrap64 (x36_3 + t441)) ≥ (t427.length : Int) then (stockadelaw04_ShapeGoes.j3 k3 t427 x36_3 (wrap64 (x36_3 + t441)) l0_1 (l0_1.length : Int) x36_3 true l0_0 l0_1 ((rd_T40 l0_1 x36_3).f0) ((rd_T40 l0_1 x36_3).f1) ((rd_T40 l0_1 x36_3).f2) ((rd_T40 l0_1 x36_3).f3) ((rd_T40 l0_1 x36_3).f4) bt434.1 bt434.2.1 bt434.2.2.1 bt434.2.2.2.1 bt434.2.2.2.2.1) else (if 0 ≤ (wrap64 (x36_3 + t441)) then (if (wrap64 (x36_3 + t441)) < (t427.length : Int) then (stockadelaw04_ShapeGoes.j3 k3 t427 x36_3 (wrap64 (x36_3 + t441)) l0_1 (l0_1.length : Int) x36_3 (!(rdOf false t427 (wrap64 (x36_3 + t441)))) l0_0 l0_1 ((rd_T40 l0_1 x36_3).f0) ((rd_T40 l0_1 x36_3).f1) ((rd_T40 l0_1 x36_3).f2) ((rd_T40 l0_1 x36_3).f3) ((rd_T40 l0_1 x36_3).f4) bt434.1 bt434.2.1 bt434.2.2.1 bt434.2.2.2.1 bt434.2.2.2.2.1) else (none)) else (none)))))) else (some false))) else (stockadelaw04_ShapeGoes.l0 k3 t427 l0_1 (l0_1.length : Int) (wrap64 (x36_3 + 1)) l0_0 l0_1)) = some r := by rw [← hbq30] at H; exact H
             have Nbq30 := Aside0.mk hbq30
             clear hbq30
             by_cases c31 : bq30 = true
             ·subst c31
              replace H := sh_t H
              replace H := Option.bind_eq_some_iff.mp H; obtain ⟨⟨t434, t435, t436, t437, t438, t439⟩, A320, H⟩ := H; try dsimp only at H
              have A32 := Aside0.mk A320
              clear A320
              by_cases c33 : t439 = 0
              ·rw [if_pos c33] at H
               have c33b0 : (t439 == 0) = true := beq_iff_eq.mpr c33
               have c33b1 : (t439 != 0) = false := bne_eq_false_iff_eq.mpr c33
               clear c33
               replace H := Option.bind_eq_some_iff.mp H; obtain ⟨t441, A340, H⟩ := H; try dsimp only at H
               have A34 := Aside0.mk A340
               clear A340
               have HC35 := Aside0.mk H
               clear H
               have p431 : 0 ≤ (x36_3 : Int) := of_decide_eq_true (by first | (with_reducible assumption) | assumption)
               have q431 : x36_3 < (l0_1.length : Int) := of_decide_eq_true (by first | (with_reducible assumption) | assumption)
               obtain ⟨ad431, e431, hx431_0, hx431_1, hx431_2, hx431_3, hx431_4⟩ := at_T40 HR0_1.out x36_3 p431 q431
               cases e431
               replace hx431_0 := (HB.out.cell (World.block_lt_of_cell? w _ hx431_0)).trans hx431_0
               replace hx431_1 := (HB.out.cell (World.block_lt_of_cell? w _ hx431_1)).trans hx431_1
               replace hx431_2 := (HB.out.cell (World.block_lt_of_cell? w _ hx431_2)).trans hx431_2
               replace hx431_3 := (HB.out.cell (World.block_lt_of_cell? w _ hx431_3)).trans hx431_3
               replace hx431_4 := (HB.out.cell (World.block_lt_of_cell? w _ hx431_4)).trans hx431_4
               replace p431 := eq_true p431
               replace q431 := eq_true q431
               go_upto_region 14 with (first | ((with_reducible refine gate_dst (N := 5) rfl ?_); (try (refine gate_guard (by rfl) ?_; dsimp only)); refine sh_box 5 #[.int .u8 0, .int .u8 0, .int .u8 0, .int .i16 0, .int .i32 0] 40 ?_; intro gb432 hg w36 hbox hb; have GE432 := sh_z (w := w) hg; have NB423_432 := sh_n BK423 hg; have NB432_423 := sh_s NB423_432; replace HO_3 := Aside0.mk (Kd.R_below (by (with_reducible repeat (first | apply Kd.R_alloc | apply Kd.R_drewN | apply Kd.R_drew)); exact HO_3.out) hb); replace BK423 := sh_k BK423 hb; replace HB := sh_b (w := w) hb; have BK432 := Aside0.mk (hbox); clear hb hbox hg; have hnb37 := NB432_423.out; have hnc37 := NB423_432.out; have hcz38 := blk_all5 BK432.out; obtain ⟨Ao39, co39, eo39⟩ := Kd.R_slice HO_3.out; subst eo39; have p433 : 0 ≤ (x36_3 : Int) := of_decide_eq_true (by first | (with_reducible assumption) | assumption); have q433 : x36_3 < (t427.length : Int) := of_decide_eq_true (by first | (with_reducible assumption) | assumption); obtain ⟨ad433, e433, hx433_0⟩ := Kd.at_bool (Kd.R_reads' HO_3.out).2.2 x36_3 p433 q433; (try rw [← Nbq30.out] at hx433_0); cases e433; have hn433_0 : ad433.block ≠ gb432 := Kd.own_blk (Kd.R_ne HO_3.out BK432.out (by decide)); have hn433_1 : ad433.block ≠ gb432 := Kd.own_blk (Kd.R_ne HO_3.out BK432.out (by decide)); have hn433_2 : ad433.block ≠ gb432 := Kd.own_blk (Kd.R_ne HO_3.out BK432.out (by decide)); have hn433_3 : ad433.block ≠ gb432 := Kd.own_blk (Kd.R_ne HO_3.out BK432.out (by decide)); have hn433_4 : ad433.block ≠ gb432 := Kd.own_blk (Kd.R_ne HO_3.out BK432.out (by decide)); replace hx433_0 := (cell_far (p := ⟨gb432, 0, none⟩) (by first | (rw [add_block]; exact hn433_0) | (show (Addr.add _ _).block ≠ _; rw [add_block]; exact hn433_0) | exact hn433_0) (.int .u8 ((rd_T40 l0_1 x36_3).f0))).trans hx433_0; replace hx433_0 := (cell_far (p := ⟨gb432, 1, none⟩) (by first | (rw [add_block]; exact hn433_1) | (show (Addr.add _ _).block ≠ _; rw [add_block]; exact hn433_1) | exact hn433_1) (.int .u8 ((rd_T40 l0_1 x36_3).f1))).trans hx433_0; replace hx433_0 := (cell_far (p := ⟨gb432, 2, none⟩) (by first | (rw [add_block]; exact hn433_2) | (show (Addr.add _ _).block ≠ _; rw [add_block]; exact hn433_2) | exact hn433_2) (.int .u8 ((rd_T40 l0_1 x36_3).f2))).trans hx433_0; replace hx433_0 := (cell_far (p := ⟨gb432, 3, none⟩) (by first | (rw [add_block]; exact hn433_3) | (show (Addr.add _ _).block ≠ _; rw [add_block]; exact hn433_3) | exact hn433_3) (.int .i16 ((rd_T40 l0_1 x36_3).f3))).trans hx433_0; replace hx433_0 := (cell_far (p := ⟨gb432, 4, none⟩) (by first | (rw [add_block]; exact hn433_4) | (show (Addr.add _ _).block ≠ _; rw [add_block]; exact hn433_4) | exact hn433_4) (.int .i32 ((rd_T40 l0_1 x36_3).f4))).trans hx433_0; clear hn433_0; clear hn433_1; clear hn433_2; clear hn433_3; clear hn433_4; replace p433 := eq_true p433; replace q433 := eq_true q433) | ((with_reducible refine gate_callee (f := 22) rfl ?_); refine sh_call (some 48) Tryd.func22 #[.agg #[.int .u8 ((rd_T40 l0_1 x36_3).f0), .int .u8 ((rd_T40 l0_1 x36_3).f1), .int .u8 ((rd_T40 l0_1 x36_3).f2), .int .i16 ((rd_T40 l0_1 x36_3).f3), .int .i32 ((rd_T40 l0_1 x36_3).f4)]] ?_; (with_reducible refine (insn_Of.calls k3 ((rd_T40 l0_1 x36_3).f0) ((rd_T40 l0_1 x36_3).f1) ((rd_T40 l0_1 x36_3).f2) ((rd_T40 l0_1 x36_3).f3) ((rd_T40 l0_1 x36_3).f4) t434 t435 t436 t437 t438 t439 _ ?side1 A32.out).mono ?_); (case side1 => exact Kd.C_below HRG0.out b_now); rintro e w40 ⟨rfl, hb⟩; refine ⟨_, rfl, ?_⟩; replace HO_3 := Aside0.mk (Kd.R_below (by (with_reducible repeat (first | apply Kd.R_alloc | apply Kd.R_drewN | apply Kd.R_drew)); exact (Kd.R_mono (Kd.R_far (p := ⟨gb432, 4, none⟩) (Kd.R_far (p := ⟨gb432, 3, none⟩) (Kd.R_far (p := ⟨gb432, 2, none⟩) (Kd.R_far (p := ⟨gb432, 1, none⟩) (Kd.R_far (p := ⟨gb432, 0, none⟩) (Kd.R_types HO_3.out BK432.out (by decide)) (fun _ hk => hk.2) (.int .u8 ((rd_T40 l0_1 x36_3).f0))) (fun _ hk => hk.2) (.int .u8 ((rd_T40 l0_1 x36_3).f1))) (fun _ hk => hk.2) (.int .u8 ((rd_T40 l0_1 x36_3).f2))) (fun _ hk => hk.2) (.int .i16 ((rd_T40 l0_1 x36_3).f3))) (fun _ hk => hk.2) (.int .i32 ((rd_T40 l0_1 x36_3).f4))) (fun _ h_ => h_.1))) hb); replace BK423 := sh_kp (g := gb423) (t := 25) #[.slice A0_0 l0_0.length c0_0, .slice (some ad431) l0_1.length c0_1] hb; replace BK432 := sh_kp (g := gb432) (t := 40) #[.int .u8 ((rd_T40 l0_1 x36_3).f0), .int .u8 ((rd_T40 l0_1 x36_3).f1), .int .u8 ((rd_T40 l0_1 x36_3).f2), .int .i16 ((rd_T40 l0_1 x36_3).f3), .int .i32 ((rd_T40 l0_1 x36_3).f4)] hb; replace HB := sh_b (w := w) hb; (try clear hb); (try clear hb2); (try clear hk); (try clear hi)) | ((with_reducible refine gate_dst (N := 6) rfl ?_); (try (refine gate_guard (by rfl) ?_; dsimp only)); refine sh_box 6 #[.int .i64 0, .int .i64 0, .int .i64 0, .bool false, .bool false] 45 ?_; intro gb440 hg w41 hbox hb; have GE440 := sh_z (w := w) hg; have NB423_440 := sh_n BK423 hg; have NB432_440 := sh_n BK432 hg; have NB440_423 := sh_s NB423_440; have NB440_432 := sh_s NB432_440; replace HO_3 := Aside0.mk (Kd.R_below (by (with_reducible repeat (first | apply Kd.R_alloc | apply Kd.R_drewN | apply Kd.R_drew)); exact HO_3.out) hb); replace BK423 := sh_k BK423 hb; replace BK432 := sh_k BK432 hb; replace HB := sh_b (w := w) hb; have BK440 := Aside0.mk (hbox); clear hb hbox hg; have hnb42 := NB440_423.out; have hnc42 := NB423_440.out; have hnb43 := NB440_432.out; have hnc43 := NB432_440.out; have hcz44 := blk_all5 BK440.out; have hcz45 := blk_all5 BK432.out) | ((with_reducible refine gate_callee (f := 23) rfl ?_); refine sh_call (some 55) Tryd.func23 #[.agg #[.int .u8 ((rd_T40 l0_1 x36_3).f0), .int .u8 ((rd_T40 l0_1 x36_3).f1), .int .u8 ((rd_T40 l0_1 x36_3).f2), .int .i16 ((rd_T40 l0_1 x36_3).f3), .int .i32 ((rd_T40 l0_1 x36_3).f4)]] ?_; (with_reducible refine (insn_Places.calls k3 ((rd_T40 l0_1 x36_3).f0) ((rd_T40 l0_1 x36_3).f1) ((rd_T40 l0_1 x36_3).f2) ((rd_T40 l0_1 x36_3).f3) ((rd_T40 l0_1 x36_3).f4) t441 _ ?side1 A34.out).mono ?_); (case side1 => exact Kd.C_below HRG0.out b_now); rintro e w46 ⟨rfl, hb⟩; refine ⟨_, rfl, ?_⟩; replace HO_3 := Aside0.mk (Kd.R_below (by (with_reducible repeat (first | apply Kd.R_alloc | apply Kd.R_drewN | apply Kd.R_drew)); exact (Kd.R_mono (Kd.R_far (p := ⟨gb440, 4, none⟩) (Kd.R_far (p := ⟨gb440, 3, none⟩) (Kd.R_far (p := ⟨gb440, 2, none⟩) (Kd.R_far (p := ⟨gb440, 1, none⟩) (Kd.R_far (p := ⟨gb440, 0, none⟩) (Kd.R_types HO_3.out BK440.out (by decide)) (fun _ hk => hk.2) (.int .i64 t434)) (fun _ hk => hk.2) (.int .i64 t435)) (fun _ hk => hk.2) (.int .i64 t436)) (fun _ hk => hk.2) (.bool t437)) (fun _ hk => hk.2) (.bool t438)) (fun _ h_ => h_.1))) hb); replace BK423 := sh_kp (g := gb423) (t := 25) #[.slice A0_0 l0_0.length c0_0, .slice (some ad431) l0_1.length c0_1] hb; replace BK432 := sh_kp (g := gb432) (t := 40) #[.int .u8 ((rd_T40 l0_1 x36_3).f0), .int .u8 ((rd_T40 l0_1 x36_3).f1), .int .u8 ((rd_T40 l0_1 x36_3).f2), .int .i16 ((rd_T40 l0_1 x36_3).f3), .int .i32 ((rd_T40 l0_1 x36_3).f4)] hb; replace BK440 := sh_kp (g := gb440) (t := 45) #[.int .i64 t434, .int .i64 t435, .int .i64 t436, .bool t437, .bool t438] hb; replace HB := sh_b (w := w) hb; (try clear hb); (try clear hb2); (try clear hk); (try clear hi)))
               (try simp only [Act.put, List.setIfInBounds_toArray, List.set_cons_zero, List.set_cons_succ])
               go_cut [77] (fun v77 wc => ∃ (kq : Nat) (x77_34 : Bool), v77 = .bool x77_34 ∧ Aside0 (stockadelaw04_ShapeGoes.j3 kq t427 x36_3 (wrap64 (x36_3 + t441)) l0_1 (l0_1.length : Int) x36_3 x77_34 l0_0 l0_1 ((rd_T40 l0_1 x36_3).f0) ((rd_T40 l0_1 x36_3).f1) ((rd_T40 l0_1 x36_3).f2) ((rd_T40 l0_1 x36_3).f3) ((rd_T40 l0_1 x36_3).f4) t434 t435 t436 t437 t438 = some r) ∧ Aside0 (kq ≤ k3) ∧ Aside0 (Kd.R Kd.bool 4 wc w.heap.size (fun _ => True) (.slice (some ad433) t427.length co39) t427) ∧ Aside0 (wc.heap[gb423]? = some (.cells #[(.slice A0_0 l0_0.length c0_0), (.slice (some ad431) l0_1.length c0_1)] 25 (0, 0))) ∧ Aside0 (wc.heap[gb432]? = some (.cells #[.int .u8 ((rd_T40 l0_1 x36_3).f0), .int .u8 ((rd_T40 l0_1 x36_3).f1), .int .u8 ((rd_T40 l0_1 x36_3).f2), .int .i16 ((rd_T40 l0_1 x36_3).f3), .int .i32 ((rd_T40 l0_1 x36_3).f4)] 40 (0, 0))) ∧ Aside0 (wc.heap[gb440]? = some (.cells #[.int .i64 t434, .int .i64 t435, .int .i64 t436, .bool t437, .bool t438] 45 (0, 0))) ∧ Aside0 (Below w.heap.size w wc))
               case first =>
                have H := HC35.out
                clear HC35
                by_cases c47 : t434 = 7
                ·rw [if_pos c47] at H
                 have c47b0 : (t434 == 7) = true := beq_iff_eq.mpr c47
                 have c47b1 : (t434 != 7) = false := bne_eq_false_iff_eq.mpr c47
                 clear c47
                 (first | rw [c47b0] | (simp only [i64_w, i32_w]; rw [c47b0]) | skip)
                 have H' := Aside0.mk H
                 clear H
                 have hnb48 := NB440_423.out
                 have hnc48 := NB423_440.out
                 have hnb49 := NB440_432.out
                 have hnc49 := NB432_440.out
                 have hcz50 := blk_all5 BK440.out
                 go_wp2
                 go_meet
                 case rel => exact ⟨_, (false), eq_now, H', ⟨by have := HJ1.out; have := HJ14.out; have := HK3.out; first | omega | exact Nat.le_refl _⟩, ⟨by (with_reducible repeat (first | apply Kd.R_alloc | apply Kd.R_drewN | apply Kd.R_drew)); exact HO_3.out⟩, ⟨bk_now⟩, ⟨bk_now⟩, ⟨bk_now⟩, ⟨b_now⟩⟩
                ·rw [if_neg c47] at H
                 have c47b0 : (t434 == 7) = false := beq_eq_false_iff_ne.mpr c47
                 have c47b1 : (t434 != 7) = true := bne_iff_ne.mpr c47
                 (first | rw [c47b0] | (simp only [i64_w, i32_w]; rw [c47b0]) | skip)
                 by_cases c51 : t434 = 9
                 ·rw [if_pos c51] at H
                  have c51b0 : (t434 == 9) = true := beq_iff_eq.mpr c51
                  have c51b1 : (t434 != 9) = false := bne_eq_false_iff_eq.mpr c51
                  clear c51
                  have H' := Aside0.mk H
                  clear H
                  have hnb52 := NB440_423.out
                  have hnc52 := NB423_440.out
                  have hnb53 := NB440_432.out
                  have hnc53 := NB432_440.out
                  have hcz54 := blk_all5 BK440.out
                  go_wp2
                  go_meet
                  case rel => exact ⟨_, (false), eq_now, H', ⟨by have := HJ1.out; have := HJ14.out; have := HK3.out; first | omega | exact Nat.le_refl _⟩, ⟨by (with_reducible repeat (first | apply Kd.R_alloc | apply Kd.R_drewN | apply Kd.R_drew)); exact HO_3.out⟩, ⟨bk_now⟩, ⟨bk_now⟩, ⟨bk_now⟩, ⟨b_now⟩⟩
                 ·rw [if_neg c51] at H
                  have c51b0 : (t434 == 9) = false := beq_eq_false_iff_ne.mpr c51
                  have c51b1 : (t434 != 9) = true := bne_iff_ne.mpr c51
                  by_cases c55 : (wrap64 (x36_3 + t441)) ≥ (t427.length : Int)
                  ·rw [if_pos c55] at H
                   have c55b0 : decide ((t427.length : Int) ≤ (wrap64 (x36_3 + t441))) = true := decide_eq_true c55
                   clear c55
                   have H' := Aside0.mk H
                   clear H
                   have hnb56 := NB440_423.out
                   have hnc56 := NB423_440.out
                   have hnb57 := NB440_432.out
                   have hnc57 := NB432_440.out
                   have hcz58 := blk_all5 BK440.out
                   go_wp2
                   go_meet
                   case rel => exact ⟨_, (true), eq_now, H', ⟨by have := HJ1.out; have := HJ14.out; have := HK3.out; first | omega | exact Nat.le_refl _⟩, ⟨by (with_reducible repeat (first | apply Kd.R_alloc | apply Kd.R_drewN | apply Kd.R_drew)); exact HO_3.out⟩, ⟨bk_now⟩, ⟨bk_now⟩, ⟨bk_now⟩, ⟨b_now⟩⟩
                  ·rw [if_neg c55] at H
                   have c55b0 : decide ((t427.length : Int) ≤ (wrap64 (x36_3 + t441))) = false := decide_eq_false c55
                   clear c55
                   obtain ⟨ji59, hji59⟩ : ∃ j_ : Int, (wrap64 (x36_3 + t441)) = j_ := ⟨_, rfl⟩
                   replace H : (if 0 ≤ (ji59) then (if (ji59) < (t427.length : Int) then (stockadelaw04_ShapeGoes.j3 k3 t427 x36_3 ji59 l0_1 (l0_1.length : Int) x36_3 (!(rdOf false t427 (ji59))) l0_0 l0_1 ((rd_T40 l0_1 x36_3).f0) ((rd_T40 l0_1 x36_3).f1) ((rd_T40 l0_1 x36_3).f2) ((rd_T40 l0_1 x36_3).f3) ((rd_T40 l0_1 x36_3).f4) t434 t435 t436 t437 t438) else (none)) else (none)) = some r := by first | (rw [hji59] at H; exact H) | (simp only [hji59] at H ⊢; exact H)
                   (try rw [hji59] at c55b0)
                   have hji59w : (IntKind.i64.wrap (x36_3 + t441)) = ji59 := (i64_w _).trans hji59
                   by_cases c60 : 0 ≤ (ji59)
                   ·rw [if_pos c60] at H
                    have c60b0 : decide (0 ≤ (ji59)) = true := decide_eq_true c60
                    clear c60
                    by_cases c61 : (ji59) < (t427.length : Int)
                    ·rw [if_pos c61] at H
                     have c61b0 : decide ((ji59) < (t427.length : Int)) = true := decide_eq_true c61
                     clear c61
                     have H' := Aside0.mk H
                     clear H
                     have hnb62 := NB440_423.out
                     have hnc62 := NB423_440.out
                     have hnb63 := NB440_432.out
                     have hnc63 := NB432_440.out
                     have hcz64 := blk_all5 BK440.out
                     have p442 : 0 ≤ ((ji59) : Int) := of_decide_eq_true (by first | (with_reducible assumption) | assumption)
                     have q442 : (ji59) < (t427.length : Int) := of_decide_eq_true (by first | (with_reducible assumption) | assumption)
                     obtain ⟨ad442, e442, hx442_0⟩ := Kd.at_bool (Kd.R_reads' HO_3.out).2.2 (ji59) p442 q442
                     (try rw [← Nbq30.out] at hx442_0)
                     obtain rfl : ad433 = ad442 := (by injection e442)
                     replace p442 := eq_true p442
                     replace q442 := eq_true q442
                     go_wp2
                     (try simp only [← hji59])
                     (try simp only [← hji59])
                     go_meet
                     case rel => exact ⟨_, (!(rdOf false t427 (ji59))), (by first | rfl | (simp; done) | (simp only [← hji59] <;> (first | rfl | simp)) | (simp [*]; done)), (by simp only [hji59]; exact H'), ⟨by have := HJ1.out; have := HJ14.out; have := HK3.out; first | omega | exact Nat.le_refl _⟩, ⟨by (with_reducible repeat (first | apply Kd.R_alloc | apply Kd.R_drewN | apply Kd.R_drew)); exact HO_3.out⟩, ⟨bk_now⟩, ⟨bk_now⟩, ⟨bk_now⟩, ⟨b_now⟩⟩
                    ·rw [if_neg c61] at H
                     exact absurd H (by simp)
                   ·rw [if_neg c60] at H
                    exact absurd H (by simp)
               case rest =>
                clear HC35
                try clear c1
                try clear c2
                try clear p2
                try clear c3
                try clear q3
                try clear c4
                try clear p4
                try clear q4
                try clear hx4
                try clear qi4
                try clear c5
                try clear c6
                try clear p6
                try clear c11
                try clear c13
                try clear c15
                try clear c18
                try clear c18b0
                try clear c18b1
                try clear c18b2
                try clear c19
                try clear c19b0
                try clear c19b1
                try clear c22
                try clear c23
                try clear c24
                try clear c26
                try clear c26b0
                try clear c27
                try clear c27b0
                try clear c28
                try clear c28b0
                try clear c29
                try clear c29b0
                try clear q30
                try clear c31
                try clear c33
                try clear c33b0
                try clear c33b1
                try clear c37
                try clear c42
                try clear c43
                try clear p43
                try clear q43
                try clear hx43
                try clear qi43
                try clear p44
                try clear q44
                try clear hx44
                try clear c47
                try clear c47b0
                try clear c47b1
                try clear c48
                try clear c49
                try clear c51
                try clear c51b0
                try clear c51b1
                try clear c52
                try clear c53
                try clear c55
                try clear c55b0
                try clear c56
                try clear c57
                try clear c60
                try clear c60b0
                try clear c61
                try clear c61b0
                try clear c62
                try clear c63
                try clear p64
                try clear hcz16
                try clear hcz21
                try clear hcz23
                try clear hcz25
                try clear hcz38
                try clear hcz44
                try clear hcz45
                try clear hcz50
                try clear hcz54
                try clear hcz58
                try clear hcz64
                try clear hcz8
                try clear hx430_0
                try clear hx431_0
                try clear hx431_1
                try clear hx431_2
                try clear hx431_3
                try clear hx431_4
                try clear hx433_0
                try clear hx442_0
                try clear p2
                try clear p4
                try clear p430
                try clear p431
                try clear p433
                try clear p442
                try clear q4
                try clear q430
                try clear q431
                try clear q433
                try clear q442
                obtain ⟨kq, x77_34, rfl, HA, HJ34, HO_3, BK423, BK432, BK440, HB⟩ := hcut
                cases kq with
                | zero => exact absurd HA.out (by simp [stockadelaw04_ShapeGoes.j3])
                | succ kj34 =>
                 have H := HA.out
                 clear HA
                 simp only [stockadelaw04_ShapeGoes.j3] at H
                 by_cases c65 : x77_34 = true
                 ·subst c65
                  replace H := sh_t H
                  obtain rfl := Option.some.inj H
                  exact absurd HRT.out (by simp)
                 ·replace c65 := Bool.eq_false_iff.mpr c65
                  subst c65
                  replace H := sh_f H
                  have HC66 := Aside0.mk H
                  clear H
                  go_upto_region 16 with (fail)
                  go_cut [88] (fun v88 wc => ∃ (kq : Nat) (x88_65 : Bool), v88 = .bool x88_65 ∧ Aside0 (stockadelaw04_ShapeGoes.j4 kq t427 x36_3 l0_1 (l0_1.length : Int) x36_3 x88_65 l0_0 l0_1 ((rd_T40 l0_1 x36_3).f0) ((rd_T40 l0_1 x36_3).f1) ((rd_T40 l0_1 x36_3).f2) ((rd_T40 l0_1 x36_3).f3) ((rd_T40 l0_1 x36_3).f4) t434 t435 t436 t437 t438 = some r) ∧ Aside0 (kq ≤ kj34) ∧ Aside0 (Kd.R Kd.bool 4 wc w.heap.size (fun _ => True) (.slice (some ad433) t427.length co39) t427) ∧ Aside0 (wc.heap[gb423]? = some (.cells #[(.slice A0_0 l0_0.length c0_0), (.slice (some ad431) l0_1.length c0_1)] 25 (0, 0))) ∧ Aside0 (wc.heap[gb432]? = some (.cells #[.int .u8 ((rd_T40 l0_1 x36_3).f0), .int .u8 ((rd_T40 l0_1 x36_3).f1), .int .u8 ((rd_T40 l0_1 x36_3).f2), .int .i16 ((rd_T40 l0_1 x36_3).f3), .int .i32 ((rd_T40 l0_1 x36_3).f4)] 40 (0, 0))) ∧ Aside0 (wc.heap[gb440]? = some (.cells #[.int .i64 t434, .int .i64 t435, .int .i64 t436, .bool t437, .bool t438] 45 (0, 0))) ∧ Aside0 (Below w.heap.size w wc))
                  case first =>
                   have H := HC66.out
                   clear HC66
                   by_cases c67 : (wrap64 (x36_3 + t441)) = (wrap64 (x36_3 + 2))
                   ·rw [if_pos c67] at H
                    have c67b0 : ((wrap64 (x36_3 + t441)) == (wrap64 (x36_3 + 2))) = true := beq_iff_eq.mpr c67
                    have c67b1 : ((wrap64 (x36_3 + t441)) != (wrap64 (x36_3 + 2))) = false := bne_eq_false_iff_eq.mpr c67
                    clear c67
                    (first | rw [c67b0] | (simp only [i64_w, i32_w]; rw [c67b0]) | skip)
                    obtain ⟨ji68, hji68⟩ : ∃ j_ : Int, (wrap64 (x36_3 + 1)) = j_ := ⟨_, rfl⟩
                    replace H : (if 0 ≤ (ji68) then (if (ji68) < (t427.length : Int) then (stockadelaw04_ShapeGoes.j4 kj34 t427 x36_3 l0_1 (l0_1.length : Int) x36_3 (rdOf false t427 (ji68)) l0_0 l0_1 ((rd_T40 l0_1 x36_3).f0) ((rd_T40 l0_1 x36_3).f1) ((rd_T40 l0_1 x36_3).f2) ((rd_T40 l0_1 x36_3).f3) ((rd_T40 l0_1 x36_3).f4) t434 t435 t436 t437 t438) else (none)) else (none)) = some r := by first | (rw [hji68] at H; exact H) | (simp only [hji68] at H ⊢; exact H)
                    have hji68w : (IntKind.i64.wrap (x36_3 + 1)) = ji68 := (i64_w _).trans hji68
                    by_cases c69 : 0 ≤ (ji68)
                    ·rw [if_pos c69] at H
                     have c69b0 : decide (0 ≤ (ji68)) = true := decide_eq_true c69
                     clear c69
                     by_cases c70 : (ji68) < (t427.length : Int)
                     ·rw [if_pos c70] at H
                      have c70b0 : decide ((ji68) < (t427.length : Int)) = true := decide_eq_true c70
                      clear c70
                      have H' := Aside0.mk H
                      clear H
                      have p443 : 0 ≤ ((ji68) : Int) := of_decide_eq_true (by first | (with_reducible assumption) | assumption)
                      have q443 : (ji68) < (t427.length : Int) := of_decide_eq_true (by first | (with_reducible assumption) | assumption)
                      obtain ⟨ad443, e443, hx443_0⟩ := Kd.at_bool (Kd.R_reads' HO_3.out).2.2 (ji68) p443 q443
                      (try rw [← Nbq30.out] at hx443_0)
                      obtain rfl : ad433 = ad443 := (by injection e443)
                      replace p443 := eq_true p443
                      replace q443 := eq_true q443
                      go_wp2
                      go_meet
                      case rel => exact ⟨_, (rdOf false t427 (ji68)), (by first | rfl | (simp; done) | (simp only [← hji68] <;> (first | rfl | simp)) | (simp [*]; done)), H', ⟨by have := HJ1.out; have := HJ14.out; have := HK3.out; have := HJ34.out; first | omega | exact Nat.le_refl _⟩, ⟨by (with_reducible repeat (first | apply Kd.R_alloc | apply Kd.R_drewN | apply Kd.R_drew)); exact HO_3.out⟩, ⟨bk_now⟩, ⟨bk_now⟩, ⟨bk_now⟩, ⟨b_now⟩⟩
                     ·rw [if_neg c70] at H
                      exact absurd H (by simp)
                    ·rw [if_neg c69] at H
                     exact absurd H (by simp)
                   ·rw [if_neg c67] at H
                    have c67b0 : ((wrap64 (x36_3 + t441)) == (wrap64 (x36_3 + 2))) = false := beq_eq_false_iff_ne.mpr c67
                    have c67b1 : ((wrap64 (x36_3 + t441)) != (wrap64 (x36_3 + 2))) = true := bne_iff_ne.mpr c67
                    (first | rw [c67b0] | (simp only [i64_w, i32_w]; rw [c67b0]) | skip)
                    have H' := Aside0.mk H
                    clear H
                    go_wp2
                    go_meet
                    case rel => exact ⟨_, (false), eq_now, H', ⟨by have := HJ1.out; have := HJ14.out; have := HK3.out; have := HJ34.out; first | omega | exact Nat.le_refl _⟩, ⟨by (with_reducible repeat (first | apply Kd.R_alloc | apply Kd.R_drewN | apply Kd.R_drew)); exact HO_3.out⟩, ⟨bk_now⟩, ⟨bk_now⟩, ⟨bk_now⟩, ⟨b_now⟩⟩
                  case rest =>
                   clear HC66
                   try clear c1
                   try clear c2
                   try clear p2
                   try clear c3
                   try clear q3
                   try clear c4
                   try clear p4
                   try clear q4
                   try clear hx4
                   try clear qi4
                   try clear c5
                   try clear c6
                   try clear p6
                   try clear c7
                   try clear c11
                   try clear c13
                   try clear c15
                   try clear c18
                   try clear c18b0
                   try clear c18b1
                   try clear c18b2
                   try clear c19
                   try clear c19b0
                   try clear c19b1
                   try clear c22
                   try clear c23
                   try clear c24
                   try clear c26
                   try clear c26b0
                   try clear c27
                   try clear c27b0
                   try clear c28
                   try clear c28b0
                   try clear c29
                   try clear c29b0
                   try clear q30
                   try clear c31
                   try clear c33
                   try clear c33b0
                   try clear c33b1
                   try clear c37
                   try clear c42
                   try clear c43
                   try clear p43
                   try clear q43
                   try clear hx43
                   try clear qi43
                   try clear p44
                   try clear q44
                   try clear hx44
                   try clear c47
                   try clear c47b0
                   try clear c47b1
                   try clear c48
                   try clear c49
                   try clear c51
                   try clear c51b0
                   try clear c51b1
                   try clear c52
                   try clear c53
                   try clear c55
                   try clear c55b0
                   try clear c56
                   try clear c57
                   try clear c60
                   try clear c60b0
                   try clear c61
                   try clear c61b0
                   try clear c62
                   try clear c63
                   try clear p64
                   try clear c65
                   try clear c67
                   try clear c67b0
                   try clear c67b1
                   try clear c69
                   try clear c69b0
                   try clear c70
                   try clear c70b0
                   try clear hcz16
                   try clear hcz21
                   try clear hcz23
                   try clear hcz25
                   try clear hcz38
                   try clear hcz44
                   try clear hcz45
                   try clear hcz50
                   try clear hcz54
                   try clear hcz58
                   try clear hcz64
                   try clear hcz8
                   try clear hx430_0
                   try clear hx431_0
                   try clear hx431_1
                   try clear hx431_2
                   try clear hx431_3
                   try clear hx431_4
                   try clear hx433_0
                   try clear hx442_0
                   try clear hx443_0
                   try clear p2
                   try clear p4
                   try clear p43
                   try clear p430
                   try clear p431
                   try clear p433
                   try clear p44
                   try clear p442
                   try clear p443
                   try clear p6
                   try clear p64
                   try clear q3
                   try clear q30
                   try clear q4
                   try clear q43
                   try clear q430
                   try clear q431
                   try clear q433
                   try clear q44
                   try clear q442
                   try clear q443
                   obtain ⟨kq, x88_65, rfl, HA, HJ65, HO_3, BK423, BK432, BK440, HB⟩ := hcut
                   cases kq with
                   | zero => exact absurd HA.out (by simp [stockadelaw04_ShapeGoes.j4])
                   | succ kj65 =>
                    have H := HA.out
                    clear HA
                    simp only [stockadelaw04_ShapeGoes.j4] at H
                    by_cases c71 : x88_65 = true
                    ·subst c71
                     replace H := sh_t H
                     obtain rfl := Option.some.inj H
                     exact absurd HRT.out (by simp)
                    ·replace c71 := Bool.eq_false_iff.mpr c71
                     subst c71
                     replace H := sh_f H
                     replace H := Option.bind_eq_some_iff.mp H; obtain ⟨t444, A720, H⟩ := H; try dsimp only at H
                     have A72 := Aside0.mk A720
                     clear A720
                     have HC73 := Aside0.mk H
                     clear H
                     have hnb74 := NB432_423.out
                     have hnc74 := NB423_432.out
                     have hnb75 := NB432_440.out
                     have hnc75 := NB440_432.out
                     have hcz76 := blk_all5 BK432.out
                     go_upto_region 19 with (first | ((with_reducible refine gate_callee (f := 19) rfl ?_); refine sh_call (some 91) Tryd.func19 #[.int .i64 x36_3, .agg #[.int .u8 ((rd_T40 l0_1 x36_3).f0), .int .u8 ((rd_T40 l0_1 x36_3).f1), .int .u8 ((rd_T40 l0_1 x36_3).f2), .int .i16 ((rd_T40 l0_1 x36_3).f3), .int .i32 ((rd_T40 l0_1 x36_3).f4)]] ?_; (with_reducible refine (shape_Target.calls x36_3 ((rd_T40 l0_1 x36_3).f0) ((rd_T40 l0_1 x36_3).f1) ((rd_T40 l0_1 x36_3).f2) ((rd_T40 l0_1 x36_3).f3) ((rd_T40 l0_1 x36_3).f4) t444 _ A72.out).mono ?_); rintro e w77 ⟨rfl, hb⟩; refine ⟨_, rfl, ?_⟩; replace HO_3 := Aside0.mk (Kd.R_below (by (with_reducible repeat (first | apply Kd.R_alloc | apply Kd.R_drewN | apply Kd.R_drew)); exact HO_3.out) hb); replace BK423 := sh_k BK423 hb; replace BK432 := sh_k BK432 hb; replace BK440 := sh_k BK440 hb; replace HB := sh_b (w := w) hb; (try clear hb); (try clear hb2); (try clear hk); (try clear hi)))
                     (try simp only [Act.put, List.setIfInBounds_toArray, List.set_cons_zero, List.set_cons_succ])
                     go_cut [116] (fun v116 wc => ∃ (kq : Nat) (x116_72 : Bool), v116 = .bool x116_72 ∧ Aside0 (stockadelaw04_ShapeGoes.j5 kq t427 l0_1 (l0_1.length : Int) x36_3 x116_72 l0_0 l0_1 ((rd_T40 l0_1 x36_3).f0) ((rd_T40 l0_1 x36_3).f1) ((rd_T40 l0_1 x36_3).f2) ((rd_T40 l0_1 x36_3).f3) ((rd_T40 l0_1 x36_3).f4) t434 t435 t436 t437 t438 = some r) ∧ Aside0 (kq ≤ kj65) ∧ Aside0 (Kd.R Kd.bool 4 wc w.heap.size (fun _ => True) (.slice (some ad433) t427.length co39) t427) ∧ Aside0 (wc.heap[gb423]? = some (.cells #[(.slice A0_0 l0_0.length c0_0), (.slice (some ad431) l0_1.length c0_1)] 25 (0, 0))) ∧ Aside0 (wc.heap[gb432]? = some (.cells #[.int .u8 ((rd_T40 l0_1 x36_3).f0), .int .u8 ((rd_T40 l0_1 x36_3).f1), .int .u8 ((rd_T40 l0_1 x36_3).f2), .int .i16 ((rd_T40 l0_1 x36_3).f3), .int .i32 ((rd_T40 l0_1 x36_3).f4)] 40 (0, 0))) ∧ Aside0 (wc.heap[gb440]? = some (.cells #[.int .i64 t434, .int .i64 t435, .int .i64 t436, .bool t437, .bool t438] 45 (0, 0))) ∧ Aside0 (Below w.heap.size w wc))
                     case first =>
                      have H := HC73.out
                      clear HC73
                      by_cases c78 : t434 = 7
                      ·rw [if_pos c78] at H
                       have c78b0 : (t434 == 7) = true := beq_iff_eq.mpr c78
                       have c78b1 : (t434 != 7) = false := bne_eq_false_iff_eq.mpr c78
                       clear c78
                       (first | rw [c78b0] | (simp only [i64_w, i32_w]; rw [c78b0]) | skip)
                       by_cases c79 : t444 < 0
                       ·rw [if_pos c79] at H
                        have c79b0 : decide (t444 < 0) = true := decide_eq_true c79
                        clear c79
                        have H' := Aside0.mk H
                        clear H
                        have hnb80 := NB440_423.out
                        have hnc80 := NB423_440.out
                        have hnb81 := NB440_432.out
                        have hnc81 := NB432_440.out
                        have hcz82 := blk_all5 BK440.out
                        go_wp2
                        go_meet
                        case rel => exact ⟨_, (true), eq_now, H', ⟨by have := HJ1.out; have := HJ14.out; have := HK3.out; have := HJ34.out; have := HJ65.out; first | omega | exact Nat.le_refl _⟩, ⟨by (with_reducible repeat (first | apply Kd.R_alloc | apply Kd.R_drewN | apply Kd.R_drew)); exact HO_3.out⟩, ⟨bk_now⟩, ⟨bk_now⟩, ⟨bk_now⟩, ⟨b_now⟩⟩
                       ·rw [if_neg c79] at H
                        have c79b0 : decide (t444 < 0) = false := decide_eq_false c79
                        clear c79
                        by_cases c83 : t444 ≥ (t427.length : Int)
                        ·rw [if_pos c83] at H
                         have c83b0 : decide ((t427.length : Int) ≤ t444) = true := decide_eq_true c83
                         clear c83
                         have H' := Aside0.mk H
                         clear H
                         have hnb84 := NB440_423.out
                         have hnc84 := NB423_440.out
                         have hnb85 := NB440_432.out
                         have hnc85 := NB432_440.out
                         have hcz86 := blk_all5 BK440.out
                         go_wp2
                         go_meet
                         case rel => exact ⟨_, (true), eq_now, H', ⟨by have := HJ1.out; have := HJ14.out; have := HK3.out; have := HJ34.out; have := HJ65.out; first | omega | exact Nat.le_refl _⟩, ⟨by (with_reducible repeat (first | apply Kd.R_alloc | apply Kd.R_drewN | apply Kd.R_drew)); exact HO_3.out⟩, ⟨bk_now⟩, ⟨bk_now⟩, ⟨bk_now⟩, ⟨b_now⟩⟩
                        ·rw [if_neg c83] at H
                         have c83b0 : decide ((t427.length : Int) ≤ t444) = false := decide_eq_false c83
                         clear c83
                         by_cases c87 : 0 ≤ t444
                         ·rw [if_pos c87] at H
                          have c87b0 : decide (0 ≤ t444) = true := decide_eq_true c87
                          clear c87
                          by_cases c88 : t444 < (t427.length : Int)
                          ·rw [if_pos c88] at H
                           have c88b0 : decide (t444 < (t427.length : Int)) = true := decide_eq_true c88
                           clear c88
                           have H' := Aside0.mk H
                           clear H
                           have hnb89 := NB440_423.out
                           have hnc89 := NB423_440.out
                           have hnb90 := NB440_432.out
                           have hnc90 := NB432_440.out
                           have hcz91 := blk_all5 BK440.out
                           have p445 : 0 ≤ (t444 : Int) := of_decide_eq_true (by first | (with_reducible assumption) | assumption)
                           have q445 : t444 < (t427.length : Int) := of_decide_eq_true (by first | (with_reducible assumption) | assumption)
                           obtain ⟨ad445, e445, hx445_0⟩ := Kd.at_bool (Kd.R_reads' HO_3.out).2.2 t444 p445 q445
                           (try rw [← Nbq30.out] at hx445_0)
                           obtain rfl : ad433 = ad445 := (by injection e445)
                           replace p445 := eq_true p445
                           replace q445 := eq_true q445
                           go_wp2
                           go_meet
                           case rel => exact ⟨_, (!(rdOf false t427 t444)), eq_now, H', ⟨by have := HJ1.out; have := HJ14.out; have := HK3.out; have := HJ34.out; have := HJ65.out; first | omega | exact Nat.le_refl _⟩, ⟨by (with_reducible repeat (first | apply Kd.R_alloc | apply Kd.R_drewN | apply Kd.R_drew)); exact HO_3.out⟩, ⟨bk_now⟩, ⟨bk_now⟩, ⟨bk_now⟩, ⟨b_now⟩⟩
                          ·rw [if_neg c88] at H
                           exact absurd H (by simp)
                         ·rw [if_neg c87] at H
                          exact absurd H (by simp)
                      ·rw [if_neg c78] at H
                       have c78b0 : (t434 == 7) = false := beq_eq_false_iff_ne.mpr c78
                       have c78b1 : (t434 != 7) = true := bne_iff_ne.mpr c78
                       (first | rw [c78b0] | (simp only [i64_w, i32_w]; rw [c78b0]) | skip)
                       by_cases c92 : t434 = 6
                       ·rw [if_pos c92] at H
                        have c92b0 : (t434 == 6) = true := beq_iff_eq.mpr c92
                        have c92b1 : (t434 != 6) = false := bne_eq_false_iff_eq.mpr c92
                        clear c92
                        by_cases c93 : t444 < 0
                        ·rw [if_pos c93] at H
                         have c93b0 : decide (t444 < 0) = true := decide_eq_true c93
                         clear c93
                         have H' := Aside0.mk H
                         clear H
                         have hnb94 := NB440_423.out
                         have hnc94 := NB423_440.out
                         have hnb95 := NB440_432.out
                         have hnc95 := NB432_440.out
                         have hcz96 := blk_all5 BK440.out
                         go_wp2
                         go_meet
                         case rel => exact ⟨_, (true), eq_now, H', ⟨by have := HJ1.out; have := HJ14.out; have := HK3.out; have := HJ34.out; have := HJ65.out; first | omega | exact Nat.le_refl _⟩, ⟨by (with_reducible repeat (first | apply Kd.R_alloc | apply Kd.R_drewN | apply Kd.R_drew)); exact HO_3.out⟩, ⟨bk_now⟩, ⟨bk_now⟩, ⟨bk_now⟩, ⟨b_now⟩⟩
                        ·rw [if_neg c93] at H
                         have c93b0 : decide (t444 < 0) = false := decide_eq_false c93
                         clear c93
                         by_cases c97 : t444 ≥ (t427.length : Int)
                         ·rw [if_pos c97] at H
                          have c97b0 : decide ((t427.length : Int) ≤ t444) = true := decide_eq_true c97
                          clear c97
                          have H' := Aside0.mk H
                          clear H
                          have hnb98 := NB440_423.out
                          have hnc98 := NB423_440.out
                          have hnb99 := NB440_432.out
                          have hnc99 := NB432_440.out
                          have hcz100 := blk_all5 BK440.out
                          go_wp2
                          go_meet
                          case rel => exact ⟨_, (true), eq_now, H', ⟨by have := HJ1.out; have := HJ14.out; have := HK3.out; have := HJ34.out; have := HJ65.out; first | omega | exact Nat.le_refl _⟩, ⟨by (with_reducible repeat (first | apply Kd.R_alloc | apply Kd.R_drewN | apply Kd.R_drew)); exact HO_3.out⟩, ⟨bk_now⟩, ⟨bk_now⟩, ⟨bk_now⟩, ⟨b_now⟩⟩
                         ·rw [if_neg c97] at H
                          have c97b0 : decide ((t427.length : Int) ≤ t444) = false := decide_eq_false c97
                          clear c97
                          by_cases c101 : 0 ≤ t444
                          ·rw [if_pos c101] at H
                           have c101b0 : decide (0 ≤ t444) = true := decide_eq_true c101
                           clear c101
                           by_cases c102 : t444 < (t427.length : Int)
                           ·rw [if_pos c102] at H
                            have c102b0 : decide (t444 < (t427.length : Int)) = true := decide_eq_true c102
                            clear c102
                            have H' := Aside0.mk H
                            clear H
                            have hnb103 := NB440_423.out
                            have hnc103 := NB423_440.out
                            have hnb104 := NB440_432.out
                            have hnc104 := NB432_440.out
                            have hcz105 := blk_all5 BK440.out
                            have p446 : 0 ≤ (t444 : Int) := of_decide_eq_true (by first | (with_reducible assumption) | assumption)
                            have q446 : t444 < (t427.length : Int) := of_decide_eq_true (by first | (with_reducible assumption) | assumption)
                            obtain ⟨ad446, e446, hx446_0⟩ := Kd.at_bool (Kd.R_reads' HO_3.out).2.2 t444 p446 q446
                            (try rw [← Nbq30.out] at hx446_0)
                            obtain rfl : ad433 = ad446 := (by injection e446)
                            replace p446 := eq_true p446
                            replace q446 := eq_true q446
                            go_wp2
                            go_meet
                            case rel => exact ⟨_, (!(rdOf false t427 t444)), eq_now, H', ⟨by have := HJ1.out; have := HJ14.out; have := HK3.out; have := HJ34.out; have := HJ65.out; first | omega | exact Nat.le_refl _⟩, ⟨by (with_reducible repeat (first | apply Kd.R_alloc | apply Kd.R_drewN | apply Kd.R_drew)); exact HO_3.out⟩, ⟨bk_now⟩, ⟨bk_now⟩, ⟨bk_now⟩, ⟨b_now⟩⟩
                           ·rw [if_neg c102] at H
                            exact absurd H (by simp)
                          ·rw [if_neg c101] at H
                           exact absurd H (by simp)
                       ·rw [if_neg c92] at H
                        have c92b0 : (t434 == 6) = false := beq_eq_false_iff_ne.mpr c92
                        have c92b1 : (t434 != 6) = true := bne_iff_ne.mpr c92
                        have H' := Aside0.mk H
                        clear H
                        have hnb106 := NB440_423.out
                        have hnc106 := NB423_440.out
                        have hnb107 := NB440_432.out
                        have hnc107 := NB432_440.out
                        have hcz108 := blk_all5 BK440.out
                        go_wp2
                        go_meet
                        case rel => exact ⟨_, (false), eq_now, H', ⟨by have := HJ1.out; have := HJ14.out; have := HK3.out; have := HJ34.out; have := HJ65.out; first | omega | exact Nat.le_refl _⟩, ⟨by (with_reducible repeat (first | apply Kd.R_alloc | apply Kd.R_drewN | apply Kd.R_drew)); exact HO_3.out⟩, ⟨bk_now⟩, ⟨bk_now⟩, ⟨bk_now⟩, ⟨b_now⟩⟩
                     case rest =>
                      clear HC73
                      try clear c1
                      try clear c2
                      try clear p2
                      try clear c3
                      try clear q3
                      try clear c4
                      try clear p4
                      try clear q4
                      try clear hx4
                      try clear qi4
                      try clear c5
                      try clear c6
                      try clear p6
                      try clear c7
                      try clear c8
                      try clear c9
                      try clear c10
                      try clear c11
                      try clear c13
                      try clear c15
                      try clear c18
                      try clear c18b0
                      try clear c18b1
                      try clear c18b2
                      try clear c19
                      try clear c19b0
                      try clear c19b1
                      try clear c22
                      try clear c23
                      try clear c24
                      try clear c26
                      try clear c26b0
                      try clear c27
                      try clear c27b0
                      try clear c28
                      try clear c28b0
                      try clear c29
                      try clear c29b0
                      try clear q30
                      try clear c31
                      try clear c33
                      try clear c33b0
                      try clear c33b1
                      try clear c37
                      try clear c42
                      try clear c43
                      try clear p43
                      try clear q43
                      try clear hx43
                      try clear qi43
                      try clear p44
                      try clear q44
                      try clear hx44
                      try clear c47
                      try clear c47b0
                      try clear c47b1
                      try clear c48
                      try clear c49
                      try clear c51
                      try clear c51b0
                      try clear c51b1
                      try clear c52
                      try clear c53
                      try clear c55
                      try clear c55b0
                      try clear c56
                      try clear c57
                      try clear c60
                      try clear c60b0
                      try clear c61
                      try clear c61b0
                      try clear c62
                      try clear c63
                      try clear p64
                      try clear c65
                      try clear c67
                      try clear c67b0
                      try clear c67b1
                      try clear c69
                      try clear c69b0
                      try clear c70
                      try clear c70b0
                      try clear c71
                      try clear c74
                      try clear c75
                      try clear c78
                      try clear c78b0
                      try clear c78b1
                      try clear c79
                      try clear c79b0
                      try clear c80
                      try clear c81
                      try clear c83
                      try clear c83b0
                      try clear c84
                      try clear c85
                      try clear c87
                      try clear c87b0
                      try clear c88
                      try clear c88b0
                      try clear c89
                      try clear c90
                      try clear c92
                      try clear c92b0
                      try clear c92b1
                      try clear c93
                      try clear c93b0
                      try clear c94
                      try clear c95
                      try clear c97
                      try clear c97b0
                      try clear c98
                      try clear c99
                      try clear c101
                      try clear c101b0
                      try clear c102
                      try clear c102b0
                      try clear c103
                      try clear c104
                      try clear c106
                      try clear c107
                      try clear hcz100
                      try clear hcz105
                      try clear hcz108
                      try clear hcz16
                      try clear hcz21
                      try clear hcz23
                      try clear hcz25
                      try clear hcz38
                      try clear hcz44
                      try clear hcz45
                      try clear hcz50
                      try clear hcz54
                      try clear hcz58
                      try clear hcz64
                      try clear hcz76
                      try clear hcz82
                      try clear hcz86
                      try clear hcz8
                      try clear hcz91
                      try clear hcz96
                      try clear hx430_0
                      try clear hx431_0
                      try clear hx431_1
                      try clear hx431_2
                      try clear hx431_3
                      try clear hx431_4
                      try clear hx433_0
                      try clear hx442_0
                      try clear hx443_0
                      try clear hx445_0
                      try clear hx446_0
                      try clear p2
                      try clear p4
                      try clear p43
                      try clear p430
                      try clear p431
                      try clear p433
                      try clear p44
                      try clear p442
                      try clear p443
                      try clear p445
                      try clear p446
                      try clear p6
                      try clear p64
                      try clear q3
                      try clear q30
                      try clear q4
                      try clear q43
                      try clear q430
                      try clear q431
                      try clear q433
                      try clear q44
                      try clear q442
                      try clear q443
                      try clear q445
                      try clear q446
                      obtain ⟨kq, x116_72, rfl, HA, HJ72, HO_3, BK423, BK432, BK440, HB⟩ := hcut
                      cases kq with
                      | zero => exact absurd HA.out (by simp [stockadelaw04_ShapeGoes.j5])
                      | succ kj72 =>
                       have H := HA.out
                       clear HA
                       simp only [stockadelaw04_ShapeGoes.j5] at H
                       by_cases c109 : x116_72 = true
                       ·subst c109
                        replace H := sh_t H
                        obtain rfl := Option.some.inj H
                        exact absurd HRT.out (by simp)
                       ·replace c109 := Bool.eq_false_iff.mpr c109
                        subst c109
                        replace H := sh_f H
                        by_cases c110 : t434 = 11
                        ·rw [if_pos c110] at H
                         have c110b0 : (t434 == 11) = true := beq_iff_eq.mpr c110
                         have c110b1 : (t434 != 11) = false := bne_eq_false_iff_eq.mpr c110
                         clear c110
                         by_cases c111 : ((rd_T40 l0_1 x36_3).f4) < 0
                         ·rw [if_pos c111] at H
                          have c111b0 : decide (((rd_T40 l0_1 x36_3).f4) < 0) = true := decide_eq_true c111
                          clear c111
                          obtain rfl := Option.some.inj H
                          exact absurd HRT.out (by simp)
                         ·rw [if_neg c111] at H
                          have c111b0 : decide (((rd_T40 l0_1 x36_3).f4) < 0) = false := decide_eq_false c111
                          clear c111
                          by_cases c112 : (wrap64 (((rd_T40 l0_1 x36_3).f4))) ≥ (l0_0.length : Int)
                          ·rw [if_pos c112] at H
                           have c112b0 : decide ((l0_0.length : Int) ≤ (wrap64 (((rd_T40 l0_1 x36_3).f4)))) = true := decide_eq_true c112
                           clear c112
                           obtain rfl := Option.some.inj H
                           exact absurd HRT.out (by simp)
                          ·rw [if_neg c112] at H
                           have c112b0 : decide ((l0_0.length : Int) ≤ (wrap64 (((rd_T40 l0_1 x36_3).f4)))) = false := decide_eq_false c112
                           clear c112
                           by_cases c113 : t434 = 8
                           ·rw [if_pos c113] at H
                            have c113b0 : (t434 == 8) = true := beq_iff_eq.mpr c113
                            have c113b1 : (t434 != 8) = false := bne_eq_false_iff_eq.mpr c113
                            clear c113
                            replace H := Option.bind_eq_some_iff.mp H; obtain ⟨t447, A1140, H⟩ := H; try dsimp only at H
                            have A114 := Aside0.mk A1140
                            clear A1140
                            by_cases c115 : t447 = true
                            ·subst c115
                             replace H := sh_t H
                             have H' := Aside0.mk H
                             clear H
                             have hnb116 := NB440_423.out
                             have hnc116 := NB423_440.out
                             have hnb117 := NB440_432.out
                             have hnc117 := NB432_440.out
                             have hcz118 := blk_all5 BK440.out
                             have hnb119 := NB432_423.out
                             have hnc119 := NB423_432.out
                             have hcz120 := blk_all5 BK432.out
                             have hcz121 := blk_all2 BK423.out
                             go_wp2_with (first | (go_at_call 17; (with_reducible refine (shape_Helper.calls ((rd_T40 l0_1 x36_3).f4) true _ A114.out).mono ?_); rintro e w' ⟨rfl, ⟨nd, rfl⟩⟩))
                             go_roundg kj72
                             case measure => have := HJ1.out; have := HJ14.out; have := HK3.out; have := HJ34.out; have := HJ65.out; have := HJ72.out; omega
                             case rel => exact ⟨(wrap64 (x36_3 + 1)), eq_now, H', ⟨by have := HJ1.out; have := HJ14.out; have := HK3.out; have := HJ34.out; have := HJ65.out; have := HJ72.out; omega⟩, ⟨by (with_reducible repeat (first | apply Kd.R_alloc | apply Kd.R_drewN | apply Kd.R_drew)); exact HO_3.out⟩, ⟨bk_now⟩, ⟨b_now⟩⟩
                            ·replace c115 := Bool.eq_false_iff.mpr c115
                             subst c115
                             replace H := sh_f H
                             obtain rfl := Option.some.inj H
                             exact absurd HRT.out (by simp)
                           ·rw [if_neg c113] at H
                            have c113b0 : (t434 == 8) = false := beq_eq_false_iff_ne.mpr c113
                            have c113b1 : (t434 != 8) = true := bne_iff_ne.mpr c113
                            have H' := Aside0.mk H
                            clear H
                            have hnb122 := NB440_423.out
                            have hnc122 := NB423_440.out
                            have hnb123 := NB440_432.out
                            have hnc123 := NB432_440.out
                            have hcz124 := blk_all5 BK440.out
                            have hnb125 := NB432_423.out
                            have hnc125 := NB423_432.out
                            have hcz126 := blk_all5 BK432.out
                            have hcz127 := blk_all2 BK423.out
                            go_wp2
                            go_roundg kj72
                            case measure => have := HJ1.out; have := HJ14.out; have := HK3.out; have := HJ34.out; have := HJ65.out; have := HJ72.out; omega
                            case rel => exact ⟨(wrap64 (x36_3 + 1)), eq_now, H', ⟨by have := HJ1.out; have := HJ14.out; have := HK3.out; have := HJ34.out; have := HJ65.out; have := HJ72.out; omega⟩, ⟨by (with_reducible repeat (first | apply Kd.R_alloc | apply Kd.R_drewN | apply Kd.R_drew)); exact HO_3.out⟩, ⟨bk_now⟩, ⟨b_now⟩⟩
                        ·rw [if_neg c110] at H
                         have c110b0 : (t434 == 11) = false := beq_eq_false_iff_ne.mpr c110
                         have c110b1 : (t434 != 11) = true := bne_iff_ne.mpr c110
                         by_cases c128 : t434 = 8
                         ·rw [if_pos c128] at H
                          have c128b0 : (t434 == 8) = true := beq_iff_eq.mpr c128
                          have c128b1 : (t434 != 8) = false := bne_eq_false_iff_eq.mpr c128
                          clear c128
                          replace H := Option.bind_eq_some_iff.mp H; obtain ⟨t448, A1290, H⟩ := H; try dsimp only at H
                          have A129 := Aside0.mk A1290
                          clear A1290
                          by_cases c130 : t448 = true
                          ·subst c130
                           replace H := sh_t H
                           have H' := Aside0.mk H
                           clear H
                           have hnb131 := NB440_423.out
                           have hnc131 := NB423_440.out
                           have hnb132 := NB440_432.out
                           have hnc132 := NB432_440.out
                           have hcz133 := blk_all5 BK440.out
                           have hnb134 := NB432_423.out
                           have hnc134 := NB423_432.out
                           have hcz135 := blk_all5 BK432.out
                           go_wp2_with (first | (go_at_call 17; (with_reducible refine (shape_Helper.calls ((rd_T40 l0_1 x36_3).f4) true _ A129.out).mono ?_); rintro e w' ⟨rfl, ⟨nd, rfl⟩⟩))
                           go_roundg kj72
                           case measure => have := HJ1.out; have := HJ14.out; have := HK3.out; have := HJ34.out; have := HJ65.out; have := HJ72.out; omega
                           case rel => exact ⟨(wrap64 (x36_3 + 1)), eq_now, H', ⟨by have := HJ1.out; have := HJ14.out; have := HK3.out; have := HJ34.out; have := HJ65.out; have := HJ72.out; omega⟩, ⟨by (with_reducible repeat (first | apply Kd.R_alloc | apply Kd.R_drewN | apply Kd.R_drew)); exact HO_3.out⟩, ⟨bk_now⟩, ⟨b_now⟩⟩
                          ·replace c130 := Bool.eq_false_iff.mpr c130
                           subst c130
                           replace H := sh_f H
                           obtain rfl := Option.some.inj H
                           exact absurd HRT.out (by simp)
                         ·rw [if_neg c128] at H
                          have c128b0 : (t434 == 8) = false := beq_eq_false_iff_ne.mpr c128
                          have c128b1 : (t434 != 8) = true := bne_iff_ne.mpr c128
                          have H' := Aside0.mk H
                          clear H
                          have hnb136 := NB440_423.out
                          have hnc136 := NB423_440.out
                          have hnb137 := NB440_432.out
                          have hnc137 := NB432_440.out
                          have hcz138 := blk_all5 BK440.out
                          go_wp2
                          go_roundg kj72
                          case measure => have := HJ1.out; have := HJ14.out; have := HK3.out; have := HJ34.out; have := HJ65.out; have := HJ72.out; omega
                          case rel => exact ⟨(wrap64 (x36_3 + 1)), eq_now, H', ⟨by have := HJ1.out; have := HJ14.out; have := HK3.out; have := HJ34.out; have := HJ65.out; have := HJ72.out; omega⟩, ⟨by (with_reducible repeat (first | apply Kd.R_alloc | apply Kd.R_drewN | apply Kd.R_drew)); exact HO_3.out⟩, ⟨bk_now⟩, ⟨b_now⟩⟩
              ·rw [if_neg c33] at H
               have c33b0 : (t439 == 0) = false := beq_eq_false_iff_ne.mpr c33
               have c33b1 : (t439 != 0) = true := bne_iff_ne.mpr c33
               obtain rfl := Option.some.inj H
               exact absurd HRT.out (by simp)
             ·replace c31 := Bool.eq_false_iff.mpr c31
              subst c31
              replace H := sh_f H
              have H' := Aside0.mk H
              clear H
              have p431 : 0 ≤ (x36_3 : Int) := of_decide_eq_true (by first | (with_reducible assumption) | assumption)
              have q431 : x36_3 < (l0_1.length : Int) := of_decide_eq_true (by first | (with_reducible assumption) | assumption)
              obtain ⟨ad431, e431, hx431_0, hx431_1, hx431_2, hx431_3, hx431_4⟩ := at_T40 HR0_1.out x36_3 p431 q431
              cases e431
              replace hx431_0 := (HB.out.cell (World.block_lt_of_cell? w _ hx431_0)).trans hx431_0
              replace hx431_1 := (HB.out.cell (World.block_lt_of_cell? w _ hx431_1)).trans hx431_1
              replace hx431_2 := (HB.out.cell (World.block_lt_of_cell? w _ hx431_2)).trans hx431_2
              replace hx431_3 := (HB.out.cell (World.block_lt_of_cell? w _ hx431_3)).trans hx431_3
              replace hx431_4 := (HB.out.cell (World.block_lt_of_cell? w _ hx431_4)).trans hx431_4
              replace p431 := eq_true p431
              replace q431 := eq_true q431
              go_wp2_with (first | ((with_reducible refine gate_dst (N := 5) rfl ?_); (try (refine gate_guard (by rfl) ?_; dsimp only)); refine sh_box 5 #[.int .u8 0, .int .u8 0, .int .u8 0, .int .i16 0, .int .i32 0] 40 ?_; intro gb432 hg w139 hbox hb; have GE432 := sh_z (w := w) hg; have NB423_432 := sh_n BK423 hg; have NB432_423 := sh_s NB423_432; replace HO_3 := Aside0.mk (Kd.R_below (by (with_reducible repeat (first | apply Kd.R_alloc | apply Kd.R_drewN | apply Kd.R_drew)); exact HO_3.out) hb); replace BK423 := sh_k BK423 hb; replace HB := sh_b (w := w) hb; have BK432 := Aside0.mk (hbox); clear hb hbox hg; have hnb140 := NB432_423.out; have hnc140 := NB423_432.out; have hcz141 := blk_all5 BK432.out; obtain ⟨Ao142, co142, eo142⟩ := Kd.R_slice HO_3.out; subst eo142; have p433 : 0 ≤ (x36_3 : Int) := of_decide_eq_true (by first | (with_reducible assumption) | assumption); have q433 : x36_3 < (t427.length : Int) := of_decide_eq_true (by first | (with_reducible assumption) | assumption); obtain ⟨ad433, e433, hx433_0⟩ := Kd.at_bool (Kd.R_reads' HO_3.out).2.2 x36_3 p433 q433; (try rw [← Nbq30.out] at hx433_0); cases e433; have hn433_0 : ad433.block ≠ gb432 := Kd.own_blk (Kd.R_ne HO_3.out BK432.out (by decide)); have hn433_1 : ad433.block ≠ gb432 := Kd.own_blk (Kd.R_ne HO_3.out BK432.out (by decide)); have hn433_2 : ad433.block ≠ gb432 := Kd.own_blk (Kd.R_ne HO_3.out BK432.out (by decide)); have hn433_3 : ad433.block ≠ gb432 := Kd.own_blk (Kd.R_ne HO_3.out BK432.out (by decide)); have hn433_4 : ad433.block ≠ gb432 := Kd.own_blk (Kd.R_ne HO_3.out BK432.out (by decide)); replace hx433_0 := (cell_far (p := ⟨gb432, 0, none⟩) (by first | (rw [add_block]; exact hn433_0) | (show (Addr.add _ _).block ≠ _; rw [add_block]; exact hn433_0) | exact hn433_0) (.int .u8 ((rd_T40 l0_1 x36_3).f0))).trans hx433_0; replace hx433_0 := (cell_far (p := ⟨gb432, 1, none⟩) (by first | (rw [add_block]; exact hn433_1) | (show (Addr.add _ _).block ≠ _; rw [add_block]; exact hn433_1) | exact hn433_1) (.int .u8 ((rd_T40 l0_1 x36_3).f1))).trans hx433_0; replace hx433_0 := (cell_far (p := ⟨gb432, 2, none⟩) (by first | (rw [add_block]; exact hn433_2) | (show (Addr.add _ _).block ≠ _; rw [add_block]; exact hn433_2) | exact hn433_2) (.int .u8 ((rd_T40 l0_1 x36_3).f2))).trans hx433_0; replace hx433_0 := (cell_far (p := ⟨gb432, 3, none⟩) (by first | (rw [add_block]; exact hn433_3) | (show (Addr.add _ _).block ≠ _; rw [add_block]; exact hn433_3) | exact hn433_3) (.int .i16 ((rd_T40 l0_1 x36_3).f3))).trans hx433_0; replace hx433_0 := (cell_far (p := ⟨gb432, 4, none⟩) (by first | (rw [add_block]; exact hn433_4) | (show (Addr.add _ _).block ≠ _; rw [add_block]; exact hn433_4) | exact hn433_4) (.int .i32 ((rd_T40 l0_1 x36_3).f4))).trans hx433_0; clear hn433_0; clear hn433_1; clear hn433_2; clear hn433_3; clear hn433_4; replace p433 := eq_true p433; replace q433 := eq_true q433))
              go_roundg k3
              case measure => have := HJ1.out; have := HJ14.out; have := HK3.out; omega
              case rel => exact ⟨(wrap64 (x36_3 + 1)), eq_now, H', ⟨by have := HJ1.out; have := HJ14.out; have := HK3.out; omega⟩, ⟨by (with_reducible repeat (first | apply Kd.R_alloc | apply Kd.R_drewN | apply Kd.R_drew)); exact Kd.R_mono (Kd.R_far (p := ⟨gb432, 4, none⟩) (Kd.R_far (p := ⟨gb432, 3, none⟩) (Kd.R_far (p := ⟨gb432, 2, none⟩) (Kd.R_far (p := ⟨gb432, 1, none⟩) (Kd.R_far (p := ⟨gb432, 0, none⟩) (Kd.R_types HO_3.out BK432.out (by decide)) (fun _ hk => hk.2) (.int .u8 ((rd_T40 l0_1 x36_3).f0))) (fun _ hk => hk.2) (.int .u8 ((rd_T40 l0_1 x36_3).f1))) (fun _ hk => hk.2) (.int .u8 ((rd_T40 l0_1 x36_3).f2))) (fun _ hk => hk.2) (.int .i16 ((rd_T40 l0_1 x36_3).f3))) (fun _ hk => hk.2) (.int .i32 ((rd_T40 l0_1 x36_3).f4))) (fun _ hk => trivial)⟩, ⟨bk_now⟩, ⟨b_now⟩⟩
            ·rw [if_neg c29] at H
             exact absurd H (by simp)
           ·rw [if_neg c28] at H
            exact absurd H (by simp)
          ·rw [if_neg c27] at H
           exact absurd H (by simp)
         ·rw [if_neg c26] at H
          have c26b0 : decide (x36_3 < (l0_1.length : Int)) = false := decide_eq_false c26
          clear c26
          obtain rfl := Option.some.inj H
          go_wp2
          go_ret
          exact ⟨ret_now, b_now⟩

end Go.Proofs.YtdhiibkcoolbeaaDoor.P
