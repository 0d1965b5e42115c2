/- Made by this session's driver over the kit's printer: for each Go function a Lean function with the same answers, and a proof that the Go call comes to these answers; no conditions but the ones each theorem names. -/
import Derived.Test.YtdhiibkcoolbeaaDoorPx0
import Derived.Test.YtdhiibkcoolbeaaDoorPx15
import Derived.Test.YtdhiibkcoolbeaaDoorPr
import Derived.Test.YtdhiibkcoolbeaaDoorPxXXCk
namespace Go.Proofs.YtdhiibkcoolbeaaDoor.P
open Go.RowKit Go.Proofs.YtdhiibkcoolbeaaDoorW.PrintWords Go.Proofs.YtdhiibkcoolbeaaDoorW.PrintLast Go.Proofs.YtdhiibkcoolbeaaDoorW.PrintMore
attribute [local go_sem] max2_int min2_int max_two min_two max_three min_three max_four min_four   -- for this text's walks alone
set_option linter.unusedVariables false
set_option linter.unusedSimpArgs false

/-! ### stockadelaw04_ShapeKnown: function 9 -/
mutual
def stockadelaw04_ShapeKnown.l0 : Nat → Int → Int → Int → Int → Int → Int → Int → Int → Int → List (S40) → Int → Int → Int → Int → Int → Int → Option (Bool)
 | 0, _, _, _, _, _, _, _, _, _, _, _, _, _, _, _, _ => none
 | k + 1, x3, x5, x6, x7, x9, x11, x12, x14, x16, x17, x91, x488000, x488001, x488002, x488003, x488004 => if x91 < 512 then ((stockadelaw04_exit.f).bind fun bt548 => (if x17.length < 11728124029610 then (stockadelaw04_ShapeKnown.l0 k x3 x5 x6 x7 x9 x11 x12 x14 x16 (x17 ++ [(⟨bt548.1, bt548.2.1, bt548.2.2.1, bt548.2.2.2.1, bt548.2.2.2.2⟩ : S40)]) (wrap64 (x91 + 1)) x488000 x488001 x488002 x488003 x488004) else (none))) else ((shape_Check.f ([] : List (S52)) x17).bind fun bt556 => ((stockadelaw04_exit.f).bind fun bt558 => (if x17.length < 11728124029610 then ((shape_Check.f ([] : List (S52)) (x17 ++ [(⟨bt558.1, bt558.2.1, bt558.2.2.1, bt558.2.2.2.1, bt558.2.2.2.2⟩ : S40)])).bind fun bt566 => ((stockadelaw04_exit.f).bind fun bt568 => ((shape_Check.f ([] : List (S52)) (([(⟨bt568.1, bt568.2.1, bt568.2.2.1, bt568.2.2.2.1, bt568.2.2.2.2⟩ : S40), (⟨21, 0, 0, (-2), 0⟩ : S40)] : List (S40)))).bind fun bt576 => ((stockadelaw04_exit.f).bind fun bt578 => ((shape_Check.f ([] : List (S52)) (([(⟨bt578.1, bt578.2.1, bt578.2.2.1, bt578.2.2.2.1, bt578.2.2.2.2⟩ : S40), (⟨x488000, x488001, x488002, x488003, x488004⟩ : S40), (⟨0, 0, 0, 0, 0⟩ : S40)] : List (S40)))).bind fun bt586 => (if bt576.1 = 1 then (if bt576.2 = 25 then (if bt586.1 = 1 then (stockadelaw04_ShapeKnown.j1 k x3 x5 x6 x7 x9 x11 x12 x14 x16 bt556.2 bt566.2 (bt586.2 != 25)) else (stockadelaw04_ShapeKnown.j1 k x3 x5 x6 x7 x9 x11 x12 x14 x16 bt556.2 bt566.2 true)) else (stockadelaw04_ShapeKnown.j1 k x3 x5 x6 x7 x9 x11 x12 x14 x16 bt556.2 bt566.2 true)) else (stockadelaw04_ShapeKnown.j1 k x3 x5 x6 x7 x9 x11 x12 x14 x16 bt556.2 bt566.2 true))))))) else (none))))
def stockadelaw04_ShapeKnown.j1 : Nat → Int → Int → Int → Int → Int → Int → Int → Int → Int → Int → Int → Bool → Option (Bool)
 | 0, _, _, _, _, _, _, _, _, _, _, _, _ => none
 | k + 1, x3, x5, x6, x7, x9, x11, x12, x14, x16, x19, x21, x143 => if x143 = true then (some false) else ((some (([(⟨1, 8, 8, 1⟩ : S52), (⟨2, 4, 8, 0⟩ : S52), (⟨2, 4, 8, 65⟩ : S52), (⟨3, 17, 8, 1⟩ : S52), (⟨3, 4, 65, 1⟩ : S52), (⟨3, 0, 1, 1⟩ : S52), (⟨3, 1, 0, 1⟩ : S52)] : List (S52)) : List (S52))).bind fun y588 => (stockadelaw04_ShapeKnown.l1 k x3 x5 x6 x7 x9 x11 x12 x14 x16 x19 x21 y588 (y588.length : Int) 0))
def stockadelaw04_ShapeKnown.l1 : Nat → Int → Int → Int → Int → Int → Int → Int → Int → Int → Int → Int → List (S52) → Int → Int → Option (Bool)
 | 0, _, _, _, _, _, _, _, _, _, _, _, _, _, _ => none
 | k + 1, x3, x5, x6, x7, x9, x11, x12, x14, x16, x19, x21, x151, x152, x153 => if x153 < x152 then (if 0 ≤ x153 then (if x153 < (x151.length : Int) then ((stockadelaw04_exit.f).bind fun bt597 => ((stockadelaw04_right.f (([(⟨(rd_T52 x151 x153).f0, (rd_T52 x151 x153).f1, (rd_T52 x151 x153).f2, (rd_T52 x151 x153).f3⟩ : S52)] : List (S52))) (([(⟨bt597.1, bt597.2.1, bt597.2.2.1, bt597.2.2.2.1, bt597.2.2.2.2⟩ : S40)] : List (S40)))).bind fun t605 => (if t605 = true then (some false) else (stockadelaw04_ShapeKnown.l1 k x3 x5 x6 x7 x9 x11 x12 x14 x16 x19 x21 x151 x152 (wrap64 (x153 + 1)))))) else (none)) else (none)) else ((stockadelaw04_awake.f).bind fun t591 => (if t591 = true then (if x3 = 23 then (if x5 = 0 then (if x6 = 0 then (if x7 = 24 then (if x9 = 27 then (if x11 = 1 then (if x12 = 26 then (if x14 = 26 then (if x16 = 0 then (if x19 = 0 then (some (x21 == 3)) else (some false)) else (some false)) else (some false)) else (some false)) else (some false)) else (some false)) else (some false)) else (some false)) else (some false)) else (some false)) else (some false)))
end
def stockadelaw04_ShapeKnown.f (k : Nat)  : Option (Bool) := (shape_Check.f ([] : List (S52)) (([(⟨24, 0, 0, 0, 0⟩ : S40)] : List (S40)))).bind fun bt491 => ((stockadelaw04_exit.f).bind fun bt493 => ((shape_Check.f ([] : List (S52)) (([(⟨5, 0, 0, 0, 0⟩ : S40), (⟨24, 0, 0, 0, 0⟩ : S40), (⟨0, 0, 0, 0, 0⟩ : S40), (⟨bt493.1, bt493.2.1, bt493.2.2.1, bt493.2.2.2.1, bt493.2.2.2.2⟩ : S40)] : List (S40)))).bind fun bt501 => ((stockadelaw04_exit.f).bind fun bt503 => ((shape_Check.f ([] : List (S52)) (([(⟨5, 0, 0, 1, 0⟩ : S40), (⟨24, 0, 0, 0, 0⟩ : S40), (⟨0, 0, 0, 0, 0⟩ : S40), (⟨bt503.1, bt503.2.1, bt503.2.2.1, bt503.2.2.2.1, bt503.2.2.2.2⟩ : S40)] : List (S40)))).bind fun bt511 => ((stockadelaw04_exit.f).bind fun bt513 => ((shape_Check.f ([] : List (S52)) (([(⟨133, 0, 0, 0, 4⟩ : S40), (⟨bt513.1, bt513.2.1, bt513.2.2.1, bt513.2.2.2.1, bt513.2.2.2.2⟩ : S40)] : List (S40)))).bind fun bt521 => ((stockadelaw04_exit.f).bind fun bt523 => ((stockadelaw04_exit.f).bind fun bt528 => ((some (([(⟨bt523.1, bt523.2.1, bt523.2.2.1, bt523.2.2.2.1, bt523.2.2.2.2⟩ : S40), (⟨24, 0, 1, 0, 0⟩ : S40), (⟨0, 0, 0, 0, 0⟩ : S40), (⟨bt528.1, bt528.2.1, bt528.2.2.1, bt528.2.2.2.1, bt528.2.2.2.2⟩ : S40)] : List (S40)) : List (S40))).bind fun y533 => ((shape_Check.f ([] : List (S52)) y533).bind fun bt536 => ((shape_Check.f (([(⟨9, 0, 0, 0⟩ : S52)] : List (S52))) y533).bind fun bt541 => ((shape_Check.f (([(⟨1, 4, 8, 1⟩ : S52)] : List (S52))) y533).bind fun bt546 => (stockadelaw04_ShapeKnown.l0 k bt491.2 bt501.2 bt511.1 bt511.2 bt521.2 bt536.1 bt536.2 bt541.2 bt546.2 ([] : List (S40)) 0 24 0 0 0 0)))))))))))))
theorem stockadelaw04_ShapeKnown.mono_l : ∀ k, (∀ y0 y1 y2 y3 y4 y5 y6 y7 y8 y9 y10 y11 y12 y13 y14 y15, LeO (stockadelaw04_ShapeKnown.l0 k y0 y1 y2 y3 y4 y5 y6 y7 y8 y9 y10 y11 y12 y13 y14 y15) (stockadelaw04_ShapeKnown.l0 (k + 1) y0 y1 y2 y3 y4 y5 y6 y7 y8 y9 y10 y11 y12 y13 y14 y15)) ∧ (∀ y0 y1 y2 y3 y4 y5 y6 y7 y8 y9 y10 y11, LeO (stockadelaw04_ShapeKnown.j1 k y0 y1 y2 y3 y4 y5 y6 y7 y8 y9 y10 y11) (stockadelaw04_ShapeKnown.j1 (k + 1) y0 y1 y2 y3 y4 y5 y6 y7 y8 y9 y10 y11)) ∧ (∀ y0 y1 y2 y3 y4 y5 y6 y7 y8 y9 y10 y11 y12 y13, LeO (stockadelaw04_ShapeKnown.l1 k y0 y1 y2 y3 y4 y5 y6 y7 y8 y9 y10 y11 y12 y13) (stockadelaw04_ShapeKnown.l1 (k + 1) y0 y1 y2 y3 y4 y5 y6 y7 y8 y9 y10 y11 y12 y13))
 | 0 => ⟨fun _ _ _ _ _ _ _ _ _ _ _ _ _ _ _ _ r h => by simp [stockadelaw04_ShapeKnown.l0] at h, fun _ _ _ _ _ _ _ _ _ _ _ _ r h => by simp [stockadelaw04_ShapeKnown.j1] at h, fun _ _ _ _ _ _ _ _ _ _ _ _ _ _ r h => by simp [stockadelaw04_ShapeKnown.l1] at h⟩
 | k + 1 => by
  obtain ⟨ih0, ih1, ih2⟩ := stockadelaw04_ShapeKnown.mono_l k
  refine ⟨?_, ?_, ?_⟩
  ·intro y0 y1 y2 y3 y4 y5 y6 y7 y8 y9 y10 y11 y12 y13 y14 y15
   unfold stockadelaw04_ShapeKnown.l0
   repeat' first
   | (with_reducible exact ih0 _ _ _ _ _ _ _ _ _ _ _ _ _ _ _ _)
   | (with_reducible exact ih1 _ _ _ _ _ _ _ _ _ _ _ _)
   | (with_reducible exact ih2 _ _ _ _ _ _ _ _ _ _ _ _ _ _)
   | (with_reducible exact LeO.refl _)
   | (with_reducible exact LeO.none _)
   | (with_reducible refine LeO.ite ?_ ?_)
   | (with_reducible refine LeO.bind ?_ (fun _ => ?_))
   | exact ih0 _ _ _ _ _ _ _ _ _ _ _ _ _ _ _ _
   | exact ih1 _ _ _ _ _ _ _ _ _ _ _ _
   | exact ih2 _ _ _ _ _ _ _ _ _ _ _ _ _ _
   | exact LeO.none _
   | refine LeO.ite ?_ ?_
   | refine LeO.bind ?_ (fun _ => ?_)
  ·intro y0 y1 y2 y3 y4 y5 y6 y7 y8 y9 y10 y11
   unfold stockadelaw04_ShapeKnown.j1
   repeat' first
   | (with_reducible exact ih0 _ _ _ _ _ _ _ _ _ _ _ _ _ _ _ _)
   | (with_reducible exact ih1 _ _ _ _ _ _ _ _ _ _ _ _)
   | (with_reducible exact ih2 _ _ _ _ _ _ _ _ _ _ _ _ _ _)
   | (with_reducible exact LeO.refl _)
   | (with_reducible exact LeO.none _)
   | (with_reducible refine LeO.ite ?_ ?_)
   | (with_reducible refine LeO.bind ?_ (fun _ => ?_))
   | exact ih0 _ _ _ _ _ _ _ _ _ _ _ _ _ _ _ _
   | exact ih1 _ _ _ _ _ _ _ _ _ _ _ _
   | exact ih2 _ _ _ _ _ _ _ _ _ _ _ _ _ _
   | exact LeO.none _
   | refine LeO.ite ?_ ?_
   | refine LeO.bind ?_ (fun _ => ?_)
  ·intro y0 y1 y2 y3 y4 y5 y6 y7 y8 y9 y10 y11 y12 y13
   unfold stockadelaw04_ShapeKnown.l1
   repeat' first
   | (with_reducible exact ih0 _ _ _ _ _ _ _ _ _ _ _ _ _ _ _ _)
   | (with_reducible exact ih1 _ _ _ _ _ _ _ _ _ _ _ _)
   | (with_reducible exact ih2 _ _ _ _ _ _ _ _ _ _ _ _ _ _)
   | (with_reducible exact LeO.refl _)
   | (with_reducible exact LeO.none _)
   | (with_reducible refine LeO.ite ?_ ?_)
   | (with_reducible refine LeO.bind ?_ (fun _ => ?_))
   | exact ih0 _ _ _ _ _ _ _ _ _ _ _ _ _ _ _ _
   | exact ih1 _ _ _ _ _ _ _ _ _ _ _ _
   | exact ih2 _ _ _ _ _ _ _ _ _ _ _ _ _ _
   | exact LeO.none _
   | refine LeO.ite ?_ ?_
   | refine LeO.bind ?_ (fun _ => ?_)
theorem stockadelaw04_ShapeKnown.mono : ∀ k, LeO (stockadelaw04_ShapeKnown.f k ) (stockadelaw04_ShapeKnown.f (k + 1) ) := by
 intro  k
 obtain ⟨ih0, ih1, ih2⟩ := stockadelaw04_ShapeKnown.mono_l k
 unfold stockadelaw04_ShapeKnown.f
 repeat' first
   | (with_reducible exact ih0 _ _ _ _ _ _ _ _ _ _ _ _ _ _ _ _)
   | (with_reducible exact ih1 _ _ _ _ _ _ _ _ _ _ _ _)
   | (with_reducible exact ih2 _ _ _ _ _ _ _ _ _ _ _ _ _ _)
   | (with_reducible exact LeO.refl _)
   | (with_reducible exact LeO.none _)
   | (with_reducible refine LeO.ite ?_ ?_)
   | (with_reducible refine LeO.bind ?_ (fun _ => ?_))
   | exact ih0 _ _ _ _ _ _ _ _ _ _ _ _ _ _ _ _
   | exact ih1 _ _ _ _ _ _ _ _ _ _ _ _
   | exact ih2 _ _ _ _ _ _ _ _ _ _ _ _ _ _
   | exact LeO.none _
   | refine LeO.ite ?_ ?_
   | refine LeO.bind ?_ (fun _ => ?_)
def stockadelaw04_ShapeKnown.T3 : Bool × List (List Nat × List Nat) := (true, [([], []), ([], []), ([], []), ([], []), ([0, 1, 2, 3], [0, 1, 2, 3]), ([4], [4]), ([5, 3], [5]), ([6], [6]), ([7], [7]), ([7], [7]), ([8, 6, 0, 1, 2, 3, 4, 5, 6, 7, 8], [8]), ([9, 10, 0, 1, 2, 3, 4, 5, 6, 7, 8, 9, 10], [9])])
def stockadelaw04_ShapeKnown.B3 : List Nat := [0, 0, 0, 0, 15, 31, 63, 127, 255, 255, 511, 2047]
theorem stockadelaw04_ShapeKnown.tab3 : rtab .any (opsOf Tryd.f9 3) = stockadelaw04_ShapeKnown.T3 := by kernel_rfl
theorem stockadelaw04_ShapeKnown.bits3 : waitsOk stockadelaw04_ShapeKnown.T3.2 stockadelaw04_ShapeKnown.B3 = true := by kernel_rfl
def stockadelaw04_ShapeKnown.T4 : Bool × List (List Nat × List Nat) := (true, [([], []), ([], []), ([], []), ([], []), ([0, 1, 2, 3], [0, 1, 2, 3]), ([4], [4]), ([5, 3], [5]), ([6], [6]), ([7], [7]), ([7], [7]), ([8, 6, 0, 1, 2, 3, 4, 5, 6, 7, 8], [8]), ([9, 10, 0, 1, 2, 3, 4, 5, 6, 7, 8, 9, 10], [9])])
def stockadelaw04_ShapeKnown.B4 : List Nat := [0, 0, 0, 0, 15, 31, 63, 127, 255, 255, 511, 2047]
theorem stockadelaw04_ShapeKnown.tab4 : rtab .any (opsOf Tryd.f9 4) = stockadelaw04_ShapeKnown.T4 := by kernel_rfl
theorem stockadelaw04_ShapeKnown.bits4 : waitsOk stockadelaw04_ShapeKnown.T4.2 stockadelaw04_ShapeKnown.B4 = true := by kernel_rfl
def stockadelaw04_ShapeKnown.T18 : Bool × List (List Nat × List Nat) := (true, [([], []), ([], []), ([], []), ([0, 1, 2], [0, 1, 2]), ([3], [3]), ([4, 0], [4]), ([5], [5]), ([6], [6]), ([6], [6]), ([7, 5, 0, 1, 2, 3, 4, 5, 6, 7], [7]), ([8, 9, 0, 1, 2, 3, 4, 5, 6, 7, 8, 9], [8])])
def stockadelaw04_ShapeKnown.B18 : List Nat := [0, 0, 0, 7, 15, 31, 63, 127, 127, 255, 1023]
theorem stockadelaw04_ShapeKnown.tab18 : rtab .any (opsOf Tryd.f9 18) = stockadelaw04_ShapeKnown.T18 := by kernel_rfl
theorem stockadelaw04_ShapeKnown.bits18 : waitsOk stockadelaw04_ShapeKnown.T18.2 stockadelaw04_ShapeKnown.B18 = true := by kernel_rfl
def stockadelaw04_ShapeKnown.T24 : Bool × List (List Nat × List Nat) := (true, [([], []), ([0], [0]), ([], []), ([2], [2]), ([1, 3], [1, 3]), ([4, 2], [4])])
def stockadelaw04_ShapeKnown.B24 : List Nat := [0, 1, 0, 4, 15, 31]
theorem stockadelaw04_ShapeKnown.tab24 : rtab .any (opsOf Tryd.f9 24) = stockadelaw04_ShapeKnown.T24 := by kernel_rfl
theorem stockadelaw04_ShapeKnown.bits24 : waitsOk stockadelaw04_ShapeKnown.T24.2 stockadelaw04_ShapeKnown.B24 = true := by kernel_rfl
set_option maxHeartbeats 8000000 in
set_option maxRecDepth 100000 in
theorem stockadelaw04_ShapeKnown.calls (k : Nat)  (r : Bool) (w : World) (hrG0 : Kd.C (Kd.int .i64) w (some ⟨0, 0, none⟩) gl0.length gl0) (hr_ : r = true) (h : stockadelaw04_ShapeKnown.f k  = some r) :
  Calls Tryd.prog 9 #[] w fun e w' => e = .returned (.bool r) ∧ Below w.heap.size w w' := by
 have hu40 := Tryd.underlying40
 have hu25 := Tryd.underlying25
 have hu52 := Tryd.underlying52
 have HRG0 := Aside0.mk hrG0
 clear hrG0
 have HRT := Aside0.mk hr_
 clear hr_
 have HB := Aside0.mk (Below.refl w.heap.size w)
 have H : ((shape_Check.f ([] : List (S52)) (([(⟨24, 0, 0, 0, 0⟩ : S40)] : List (S40)))).bind fun bt491 => ((stockadelaw04_exit.f).bind fun bt493 => ((shape_Check.f ([] : List (S52)) (([(⟨5, 0, 0, 0, 0⟩ : S40), (⟨24, 0, 0, 0, 0⟩ : S40), (⟨0, 0, 0, 0, 0⟩ : S40), (⟨bt493.1, bt493.2.1, bt493.2.2.1, bt493.2.2.2.1, bt493.2.2.2.2⟩ : S40)] : List (S40)))).bind fun bt501 => ((stockadelaw04_exit.f).bind fun bt503 => ((shape_Check.f ([] : List (S52)) (([(⟨5, 0, 0, 1, 0⟩ : S40), (⟨24, 0, 0, 0, 0⟩ : S40), (⟨0, 0, 0, 0, 0⟩ : S40), (⟨bt503.1, bt503.2.1, bt503.2.2.1, bt503.2.2.2.1, bt503.2.2.2.2⟩ : S40)] : List (S40)))).bind fun bt511 => ((stockadelaw04_exit.f).bind fun bt513 => ((shape_Check.f ([] : List (S52)) (([(⟨133, 0, 0, 0, 4⟩ : S40), (⟨bt513.1, bt513.2.1, bt513.2.2.1, bt513.2.2.2.1, bt513.2.2.2.2⟩ : S40)] : List (S40)))).bind fun bt521 => ((stockadelaw04_exit.f).bind fun bt523 => ((stockadelaw04_exit.f).bind fun bt528 => ((some (([(⟨bt523.1, bt523.2.1, bt523.2.2.1, bt523.2.2.2.1, bt523.2.2.2.2⟩ : S40), (⟨24, 0, 1, 0, 0⟩ : S40), (⟨0, 0, 0, 0, 0⟩ : S40), (⟨bt528.1, bt528.2.1, bt528.2.2.1, bt528.2.2.2.1, bt528.2.2.2.2⟩ : S40)] : List (S40)) : List (S40))).bind fun y533 => ((shape_Check.f ([] : List (S52)) y533).bind fun bt536 => ((shape_Check.f (([(⟨9, 0, 0, 0⟩ : S52)] : List (S52))) y533).bind fun bt541 => ((shape_Check.f (([(⟨1, 4, 8, 1⟩ : S52)] : List (S52))) y533).bind fun bt546 => (stockadelaw04_ShapeKnown.l0 k bt491.2 bt501.2 bt511.1 bt511.2 bt521.2 bt536.1 bt536.2 bt541.2 bt546.2 ([] : List (S40)) 0 24 0 0 0 0)))))))))))))) = some r := h
 clear h
 obtain ⟨y488, hy488⟩ : ∃ y_ : List (S40), y_ = (([(⟨24, 0, 0, 0, 0⟩ : S40)] : List (S40))) := ⟨_, rfl⟩
 replace H : ((shape_Check.f ([] : List (S52)) y488).bind fun bt491 => ((stockadelaw04_exit.f).bind fun bt493 => ((shape_Check.f ([] : List (S52)) (([(⟨5, 0, 0, 0, 0⟩ : S40), (⟨24, 0, 0, 0, 0⟩ : S40), (⟨0, 0, 0, 0, 0⟩ : S40), (⟨bt493.1, bt493.2.1, bt493.2.2.1, bt493.2.2.2.1, bt493.2.2.2.2⟩ : S40)] : List (S40)))).bind fun bt501 => ((stockadelaw04_exit.f).bind fun bt503 => ((shape_Check.f ([] : List (S52)) (([(⟨5, 0, 0, 1, 0⟩ : S40), (⟨24, 0, 0, 0, 0⟩ : S40), (⟨0, 0, 0, 0, 0⟩ : S40), (⟨bt503.1, bt503.2.1, bt503.2.2.1, bt503.2.2.2.1, bt503.2.2.2.2⟩ : S40)] : List (S40)))).bind fun bt511 => ((stockadelaw04_exit.f).bind fun bt513 => ((shape_Check.f ([] : List (S52)) (([(⟨133, 0, 0, 0, 4⟩ : S40), (⟨bt513.1, bt513.2.1, bt513.2.2.1, bt513.2.2.2.1, bt513.2.2.2.2⟩ : S40)] : List (S40)))).bind fun bt521 => ((stockadelaw04_exit.f).bind fun bt523 => ((stockadelaw04_exit.f).bind fun bt528 => ((some (([(⟨bt523.1, bt523.2.1, bt523.2.2.1, bt523.2.2.2.1, bt523.2.2.2.2⟩ : S40), (⟨24, 0, 1, 0, 0⟩ : S40), (⟨0, 0, 0, 0, 0⟩ : S40), (⟨bt528.1, bt528.2.1, bt528.2.2.1, bt528.2.2.2.1, bt528.2.2.2.2⟩ : S40)] : List (S40)) : List (S40))).bind fun y533 => ((shape_Check.f ([] : List (S52)) y533).bind fun bt536 => ((shape_Check.f (([(⟨9, 0, 0, 0⟩ : S52)] : List (S52))) y533).bind fun bt541 => ((shape_Check.f (([(⟨1, 4, 8, 1⟩ : S52)] : List (S52))) y533).bind fun bt546 => (stockadelaw04_ShapeKnown.l0 k bt491.2 bt501.2 bt511.1 bt511.2 bt521.2 bt536.1 bt536.2 bt541.2 bt546.2 ([] : List (S40)) 0 24 0 0 0 0)))))))))))))) = some r := by first | (rw [hy488]; with_reducible exact H) | (have H2_ := (Option.bind_some _ _).symm.trans H; rw [hy488]; with_reducible exact H2_) | (have H2_ := (Option.bind_some _ _).symm.trans H; with_reducible exact H2_) | with_reducible exact H | (rw [hy488]; exact H) | exact H
 have Ny488 := Aside0.mk hy488
 clear hy488
 replace H := Option.bind_eq_some_iff.mp H; obtain ⟨⟨t491, t492⟩, A10, H⟩ := H; try dsimp only at H
 have A1 := Aside0.mk A10
 clear A10
 replace H := Option.bind_eq_some_iff.mp H; obtain ⟨⟨t493, t494, t495, t496, t497⟩, A20, H⟩ := H; try dsimp only at H
 have A2 := Aside0.mk A20
 clear A20
 obtain ⟨y498, hy498⟩ : ∃ y_ : List (S40), y_ = (([(⟨5, 0, 0, 0, 0⟩ : S40), (⟨24, 0, 0, 0, 0⟩ : S40), (⟨0, 0, 0, 0, 0⟩ : S40), (⟨t493, t494, t495, t496, t497⟩ : S40)] : List (S40))) := ⟨_, rfl⟩
 replace H : ((shape_Check.f ([] : List (S52)) y498).bind fun bt501 => ((stockadelaw04_exit.f).bind fun bt503 => ((shape_Check.f ([] : List (S52)) (([(⟨5, 0, 0, 1, 0⟩ : S40), (⟨24, 0, 0, 0, 0⟩ : S40), (⟨0, 0, 0, 0, 0⟩ : S40), (⟨bt503.1, bt503.2.1, bt503.2.2.1, bt503.2.2.2.1, bt503.2.2.2.2⟩ : S40)] : List (S40)))).bind fun bt511 => ((stockadelaw04_exit.f).bind fun bt513 => ((shape_Check.f ([] : List (S52)) (([(⟨133, 0, 0, 0, 4⟩ : S40), (⟨bt513.1, bt513.2.1, bt513.2.2.1, bt513.2.2.2.1, bt513.2.2.2.2⟩ : S40)] : List (S40)))).bind fun bt521 => ((stockadelaw04_exit.f).bind fun bt523 => ((stockadelaw04_exit.f).bind fun bt528 => ((some (([(⟨bt523.1, bt523.2.1, bt523.2.2.1, bt523.2.2.2.1, bt523.2.2.2.2⟩ : S40), (⟨24, 0, 1, 0, 0⟩ : S40), (⟨0, 0, 0, 0, 0⟩ : S40), (⟨bt528.1, bt528.2.1, bt528.2.2.1, bt528.2.2.2.1, bt528.2.2.2.2⟩ : S40)] : List (S40)) : List (S40))).bind fun y533 => ((shape_Check.f ([] : List (S52)) y533).bind fun bt536 => ((shape_Check.f (([(⟨9, 0, 0, 0⟩ : S52)] : List (S52))) y533).bind fun bt541 => ((shape_Check.f (([(⟨1, 4, 8, 1⟩ : S52)] : List (S52))) y533).bind fun bt546 => (stockadelaw04_ShapeKnown.l0 k t492 bt501.2 bt511.1 bt511.2 bt521.2 bt536.1 bt536.2 bt541.2 bt546.2 ([] : List (S40)) 0 24 0 0 0 0)))))))))))) = some r := by first | (rw [hy498]; with_reducible exact H) | (have H2_ := (Option.bind_some _ _).symm.trans H; rw [hy498]; with_reducible exact H2_) | (have H2_ := (Option.bind_some _ _).symm.trans H; with_reducible exact H2_) | with_reducible exact H | (rw [hy498]; exact H) | exact H
 have Ny498 := Aside0.mk hy498
 clear hy498
 replace H := Option.bind_eq_some_iff.mp H; obtain ⟨⟨t501, t502⟩, A30, H⟩ := H; try dsimp only at H
 have A3 := Aside0.mk A30
 clear A30
 replace H := Option.bind_eq_some_iff.mp H; obtain ⟨⟨t503, t504, t505, t506, t507⟩, A40, H⟩ := H; try dsimp only at H
 have A4 := Aside0.mk A40
 clear A40
 obtain ⟨y508, hy508⟩ : ∃ y_ : List (S40), y_ = (([(⟨5, 0, 0, 1, 0⟩ : S40), (⟨24, 0, 0, 0, 0⟩ : S40), (⟨0, 0, 0, 0, 0⟩ : S40), (⟨t503, t504, t505, t506, t507⟩ : S40)] : List (S40))) := ⟨_, rfl⟩
 replace H : ((shape_Check.f ([] : List (S52)) y508).bind fun bt511 => ((stockadelaw04_exit.f).bind fun bt513 => ((shape_Check.f ([] : List (S52)) (([(⟨133, 0, 0, 0, 4⟩ : S40), (⟨bt513.1, bt513.2.1, bt513.2.2.1, bt513.2.2.2.1, bt513.2.2.2.2⟩ : S40)] : List (S40)))).bind fun bt521 => ((stockadelaw04_exit.f).bind fun bt523 => ((stockadelaw04_exit.f).bind fun bt528 => ((some (([(⟨bt523.1, bt523.2.1, bt523.2.2.1, bt523.2.2.2.1, bt523.2.2.2.2⟩ : S40), (⟨24, 0, 1, 0, 0⟩ : S40), (⟨0, 0, 0, 0, 0⟩ : S40), (⟨bt528.1, bt528.2.1, bt528.2.2.1, bt528.2.2.2.1, bt528.2.2.2.2⟩ : S40)] : List (S40)) : List (S40))).bind fun y533 => ((shape_Check.f ([] : List (S52)) y533).bind fun bt536 => ((shape_Check.f (([(⟨9, 0, 0, 0⟩ : S52)] : List (S52))) y533).bind fun bt541 => ((shape_Check.f (([(⟨1, 4, 8, 1⟩ : S52)] : List (S52))) y533).bind fun bt546 => (stockadelaw04_ShapeKnown.l0 k t492 t502 bt511.1 bt511.2 bt521.2 bt536.1 bt536.2 bt541.2 bt546.2 ([] : List (S40)) 0 24 0 0 0 0)))))))))) = some r := by first | (rw [hy508]; with_reducible exact H) | (have H2_ := (Option.bind_some _ _).symm.trans H; rw [hy508]; with_reducible exact H2_) | (have H2_ := (Option.bind_some _ _).symm.trans H; with_reducible exact H2_) | with_reducible exact H | (rw [hy508]; exact H) | exact H
 have Ny508 := Aside0.mk hy508
 clear hy508
 replace H := Option.bind_eq_some_iff.mp H; obtain ⟨⟨t511, t512⟩, A50, H⟩ := H; try dsimp only at H
 have A5 := Aside0.mk A50
 clear A50
 replace H := Option.bind_eq_some_iff.mp H; obtain ⟨⟨t513, t514, t515, t516, t517⟩, A60, H⟩ := H; try dsimp only at H
 have A6 := Aside0.mk A60
 clear A60
 obtain ⟨y518, hy518⟩ : ∃ y_ : List (S40), y_ = (([(⟨133, 0, 0, 0, 4⟩ : S40), (⟨t513, t514, t515, t516, t517⟩ : S40)] : List (S40))) := ⟨_, rfl⟩
 replace H : ((shape_Check.f ([] : List (S52)) y518).bind fun bt521 => ((stockadelaw04_exit.f).bind fun bt523 => ((stockadelaw04_exit.f).bind fun bt528 => ((some (([(⟨bt523.1, bt523.2.1, bt523.2.2.1, bt523.2.2.2.1, bt523.2.2.2.2⟩ : S40), (⟨24, 0, 1, 0, 0⟩ : S40), (⟨0, 0, 0, 0, 0⟩ : S40), (⟨bt528.1, bt528.2.1, bt528.2.2.1, bt528.2.2.2.1, bt528.2.2.2.2⟩ : S40)] : List (S40)) : List (S40))).bind fun y533 => ((shape_Check.f ([] : List (S52)) y533).bind fun bt536 => ((shape_Check.f (([(⟨9, 0, 0, 0⟩ : S52)] : List (S52))) y533).bind fun bt541 => ((shape_Check.f (([(⟨1, 4, 8, 1⟩ : S52)] : List (S52))) y533).bind fun bt546 => (stockadelaw04_ShapeKnown.l0 k t492 t502 t511 t512 bt521.2 bt536.1 bt536.2 bt541.2 bt546.2 ([] : List (S40)) 0 24 0 0 0 0)))))))) = some r := by first | (rw [hy518]; with_reducible exact H) | (have H2_ := (Option.bind_some _ _).symm.trans H; rw [hy518]; with_reducible exact H2_) | (have H2_ := (Option.bind_some _ _).symm.trans H; with_reducible exact H2_) | with_reducible exact H | (rw [hy518]; exact H) | exact H
 have Ny518 := Aside0.mk hy518
 clear hy518
 replace H := Option.bind_eq_some_iff.mp H; obtain ⟨⟨t521, t522⟩, A70, H⟩ := H; try dsimp only at H
 have A7 := Aside0.mk A70
 clear A70
 replace H := Option.bind_eq_some_iff.mp H; obtain ⟨⟨t523, t524, t525, t526, t527⟩, A80, H⟩ := H; try dsimp only at H
 have A8 := Aside0.mk A80
 clear A80
 replace H := Option.bind_eq_some_iff.mp H; obtain ⟨⟨t528, t529, t530, t531, t532⟩, A90, H⟩ := H; try dsimp only at H
 have A9 := Aside0.mk A90
 clear A90
 obtain ⟨y533, hy533⟩ : ∃ y_ : List (S40), y_ = (([(⟨t523, t524, t525, t526, t527⟩ : S40), (⟨24, 0, 1, 0, 0⟩ : S40), (⟨0, 0, 0, 0, 0⟩ : S40), (⟨t528, t529, t530, t531, t532⟩ : S40)] : List (S40))) := ⟨_, rfl⟩
 replace H : ((shape_Check.f ([] : List (S52)) y533).bind fun bt536 => ((shape_Check.f (([(⟨9, 0, 0, 0⟩ : S52)] : List (S52))) y533).bind fun bt541 => ((shape_Check.f (([(⟨1, 4, 8, 1⟩ : S52)] : List (S52))) y533).bind fun bt546 => (stockadelaw04_ShapeKnown.l0 k t492 t502 t511 t512 t522 bt536.1 bt536.2 bt541.2 bt546.2 ([] : List (S40)) 0 24 0 0 0 0)))) = some r := by first | (rw [hy533]; with_reducible exact H) | (have H2_ := (Option.bind_some _ _).symm.trans H; rw [hy533]; with_reducible exact H2_) | (have H2_ := (Option.bind_some _ _).symm.trans H; with_reducible exact H2_) | with_reducible exact H | (rw [hy533]; exact H) | exact H
 have Ny533 := Aside0.mk hy533
 clear hy533
 replace H := Option.bind_eq_some_iff.mp H; obtain ⟨⟨t536, t537⟩, A100, H⟩ := H; try dsimp only at H
 have A10 := Aside0.mk A100
 clear A100
 obtain ⟨y538, hy538⟩ : ∃ y_ : List (S52), y_ = (([(⟨9, 0, 0, 0⟩ : S52)] : List (S52))) := ⟨_, rfl⟩
 replace H : ((shape_Check.f y538 y533).bind fun bt541 => ((shape_Check.f (([(⟨1, 4, 8, 1⟩ : S52)] : List (S52))) y533).bind fun bt546 => (stockadelaw04_ShapeKnown.l0 k t492 t502 t511 t512 t522 t536 t537 bt541.2 bt546.2 ([] : List (S40)) 0 24 0 0 0 0))) = some r := by first | (rw [hy538]; with_reducible exact H) | (have H2_ := (Option.bind_some _ _).symm.trans H; rw [hy538]; with_reducible exact H2_) | (have H2_ := (Option.bind_some _ _).symm.trans H; with_reducible exact H2_) | with_reducible exact H | (rw [hy538]; exact H) | exact H
 have Ny538 := Aside0.mk hy538
 clear hy538
 replace H := Option.bind_eq_some_iff.mp H; obtain ⟨⟨t541, t542⟩, A110, H⟩ := H; try dsimp only at H
 have A11 := Aside0.mk A110
 clear A110
 obtain ⟨y543, hy543⟩ : ∃ y_ : List (S52), y_ = (([(⟨1, 4, 8, 1⟩ : S52)] : List (S52))) := ⟨_, rfl⟩
 replace H : ((shape_Check.f y543 y533).bind fun bt546 => (stockadelaw04_ShapeKnown.l0 k t492 t502 t511 t512 t522 t536 t537 t542 bt546.2 ([] : List (S40)) 0 24 0 0 0 0)) = some r := by first | (rw [hy543]; with_reducible exact H) | (have H2_ := (Option.bind_some _ _).symm.trans H; rw [hy543]; with_reducible exact H2_) | (have H2_ := (Option.bind_some _ _).symm.trans H; with_reducible exact H2_) | with_reducible exact H | (rw [hy543]; exact H) | exact H
 have Ny543 := Aside0.mk hy543
 clear hy543
 replace H := Option.bind_eq_some_iff.mp H; obtain ⟨⟨t546, t547⟩, A120, H⟩ := H; try dsimp only at H
 have A12 := Aside0.mk A120
 clear A120
 have H' := Aside0.mk H
 clear H
 go_enter Tryd.func9, Tryd.ntmps9
 try go_wp2_with (first | ((with_reducible refine gate_dst (N := 1) rfl ?_); refine sh_box 1 #[.int .u8 0, .int .u8 0, .int .u8 0, .int .i16 0, .int .i32 0] 40 ?_; intro gb487 hg w13 hbox hb; have GE487 := sh_z (w := w) hg; replace HB := sh_b (w := w) hb; have BK487 := Aside0.mk (hbox); clear hb hbox hg; have hcz14 := blk_all5 BK487.out) | ((with_reducible refine gate_dst (N := 31) rfl ?_); refine Kd.R_lit k40 _ 40 ?hg (N := 31) ?hd (xs := ([(⟨24, 0, 0, 0, 0⟩ : S40)] : List (S40))) (inner := [.int .u8 24, .int .u8 0, .int .u8 0, .int .i16 0, .int .i32 0]) (ok := fun _ => True) (okp := fun _ => True) ?hr ?hp (fun _ hk => hk) trivial (Below.refl _ _) (Nat.le_refl _) (by simp) ?_; (case hd => rfl); (case hg => rfl); (case hr => first | (go_simp; done) | (go_simp; rfl)); (case hp => exact (Reps.c5 (show Kd.M k40 _ _ _ (⟨24, 0, 0, 0, 0⟩ : S40) [.int .u8 24, .int .u8 0, .int .u8 0, .int .i16 0, .int .i32 0] from (k40_mkM _ _ _ (⟨24, 0, 0, 0, 0⟩ : S40) )) (Reps.none _ _))); intro v489 w15 ho16 hb hg_ hnew_; clear hg_ hnew_; (first | rw [← Ny488.out] at ho16 | (simp only [Int.reduceToNat] at ho16; rw [← Ny488.out] at ho16)); have HO490 := Aside0.mk (Kd.R_lower (Kd.R_newB ho16 (g := gb487) (o := .cells #[.int .u8 24, .int .u8 0, .int .u8 0, .int .i16 0, .int .i32 0] 40 (0, 0)) bk_now) (below_size b_now)); replace BK487 := sh_kp (g := gb487) (t := 40) #[.int .u8 24, .int .u8 0, .int .u8 0, .int .i16 0, .int .i32 0] hb; replace HB := sh_b (w := w) hb; clear hb ho16; obtain ⟨Ao17, co17, eo17⟩ := Kd.R_slice HO490.out; subst eo17) | ((with_reducible refine gate_callee (f := 11) rfl ?_); refine sh_call (some 33) Tryd.func11 #[.agg #[.slice none 0 0, .slice Ao17 y488.length co17]] ?_; (refine (shape_Check.calls _ _ ([] : List (S52)) _ _ y488 t491 t492 _ ?side1 ?side2 ?side3 ?side4 ?side5 A1.out).mono ?_); (case side1 => exact Kd.C_nil _ _); (case side2 => exact Nat.le_refl _); (case side3 => repeat (first | exact (Kd.R_reads' HO490.out).2.2 | (with_reducible refine Kd.C_alloc ?_ _) | (with_reducible refine Kd.C_drewN ?_ _) | (with_reducible refine Kd.C_drew ?_))); (case side4 => exact (Kd.R_reads' HO490.out).2.1); (case side5 => repeat (first | exact (Kd.C_below HRG0.out HB.out) | (with_reducible refine Kd.C_alloc ?_ _) | (with_reducible refine Kd.C_drewN ?_ _) | (with_reducible refine Kd.C_drew ?_))); rintro e w18 ⟨rfl, hb⟩; refine ⟨_, rfl, ?_⟩; replace HO490 := Aside0.mk (Kd.R_below (by (with_reducible repeat (first | apply Kd.R_alloc | apply Kd.R_drewN | apply Kd.R_drew)); exact HO490.out) hb); replace BK487 := sh_k BK487 hb; replace HB := sh_b (w := w) hb; (try clear hb); (try clear hb2); (try clear hk); (try clear hi)))
 have n0_ := Aside0.mk (Kd.R_drew HO490.out)
 have n1_ := Aside0.mk (blk_drew BK487.out)
 have n2_ := Aside0.mk (below_drew1 HB.out)
 clear HO490
 clear BK487
 clear HB
 have HO490 := n0_
 have BK487 := n1_
 have HB := n2_
 clear n0_ n1_ n2_
 refine start_ (n := 12) (S := fun w' => w'.cell? ⟨gb487, 0, none⟩ = some (.int .u8 24) ∧ w'.cell? ⟨gb487, 1, none⟩ = some (.int .u8 0) ∧ w'.cell? ⟨gb487, 2, none⟩ = some (.int .u8 0) ∧ w'.cell? ⟨gb487, 3, none⟩ = some (.int .i16 0) ∧ w'.cell? ⟨gb487, 4, none⟩ = some (.int .i32 0)) (ds := []) #[false, false, false, false, false, false, false, false, false, false, false, false] (by kernel_rfl) rfl rfl ⟨(blk_cell BK487.out 0).trans rfl, (blk_cell BK487.out 1).trans rfl, (blk_cell BK487.out 2).trans rfl, (blk_cell BK487.out 3).trans rfl, (blk_cell BK487.out 4).trans rfl⟩ (fun hHeld => ?_); refine with_tabW stockadelaw04_ShapeKnown.tab3 stockadelaw04_ShapeKnown.bits3 (fun HT_ HW_ => ?_)
 generalize w18.drew = w19 at HO490 BK487 HB hHeld ⊢
 refine pure_ (i := 0) (N := some 37) (v := ?_) (a' := ?_) #[true, false, false, false, false, false, false, false, false, false, false, false] rfl rfl (any_of HT_.out (by kernel_rfl)) (fun _ _ _ h => h) (Or.inl ⟨by rfl, ?_⟩) ?_ ?_
 rotate_left
 ·intro w'
  go_simp
  with_reducible rfl
 rotate_left
 ·simp only [Act.put, List.setIfInBounds_toArray, List.set_cons_zero, List.set_cons_succ, i64_w, i32_w]
  rfl
 refine pure_ (i := 2) (N := some 39) (v := ?_) (a' := ?_) #[true, false, true, false, false, false, false, false, false, false, false, false] rfl rfl (any_of HT_.out (by kernel_rfl)) (fun _ _ _ h => h) (Or.inl ⟨by rfl, ?_⟩) ?_ ?_
 rotate_left
 ·intro w'
  go_simp
  with_reducible rfl
 rotate_left
 ·simp only [Act.put, List.setIfInBounds_toArray, List.set_cons_zero, List.set_cons_succ, i64_w, i32_w]
  rfl
 refine take_ (i := 1) (N := some 38) (v := ?_) (a' := ?_) #[true, true, true, false, false, false, false, false, false, false, false, false] rfl rfl (take_ofW HT_.out HW_.out (by kernel_rfl)) (fun _ _ _ h => h) (Or.inl ⟨by rfl, ?_⟩) hHeld ?_ ?_
 rotate_left
 ·rintro w' ⟨s0, s1, s2, s3, s4⟩
  go_simp
  with_reducible rfl
 rotate_left
 ·simp only [Act.put, List.setIfInBounds_toArray, List.set_cons_zero, List.set_cons_succ, i64_w, i32_w]
  rfl
 refine one_ (i := 3) (N := some 40) #[true, true, true, true, false, false, false, false, false, false, false, false] rfl rfl (one_of HT_.out (by kernel_rfl)) (by decide) (fun K hK => ?_)
 refine goes_ Tryd.func24 (by kernel_rfl) rfl #[] (by rfl) rfl rfl (by (try simp only [List.map_toArray, List.map_cons, List.map_nil]); first | done | rfl | (simp only [List.length_drop, List.length_take]; rfl)) ?_
 with_reducible refine (stockadelaw04_exit.calls  t493 t494 t495 t496 t497 _ A2.out).mono ?_
 rintro e w20 ⟨rfl, hb⟩
 refine ⟨_, rfl, ?_⟩
 have n0_ := Aside0.mk (Kd.R_below (by (with_reducible repeat (first | apply Kd.R_alloc | apply Kd.R_drewN | apply Kd.R_drew)); exact HO490.out) hb)
 have n1_ := Aside0.mk (blk_below (g := gb487) (o := .cells #[.int .u8 24, .int .u8 0, .int .u8 0, .int .i16 0, .int .i32 0] 40 (0, 0)) bk_now hb)
 have n2_ := Aside0.mk (below_step b_now hb)
 clear HO490
 clear BK487
 clear HB
 have HO490 := n0_
 have BK487 := n1_
 have HB := n2_
 clear n0_ n1_ n2_
 (try clear hb)
 (try clear hb2)
 (try clear hk)
 (try clear hi)
 refine hK.out _ _ ⟨(blk_cell BK487.out 0).trans rfl, (blk_cell BK487.out 1).trans rfl, (blk_cell BK487.out 2).trans rfl, (blk_cell BK487.out 3).trans rfl, (blk_cell BK487.out 4).trans rfl⟩ (fun hHeld => ?_)
 clear hK K
 refine norm_ (a' := ?_) ?_ ?_
 rotate_left
 ·show Act.put _ (some 40) _ = _
  simp only [Act.put, List.setIfInBounds_toArray, List.set_cons_zero, List.set_cons_succ, i64_w, i32_w]
  rfl
 refine one_ (i := 4) (N := some 41) #[true, true, true, true, true, false, false, false, false, false, false, false] rfl rfl (one_of HT_.out (by kernel_rfl)) (by decide) (fun K hK => ?_)
 refine Kd.R_lit_step k40 _ 40 ?hg (N := 41) ?hd (xs := ([(⟨5, 0, 0, 0, 0⟩ : S40), (⟨24, 0, 0, 0, 0⟩ : S40), (⟨0, 0, 0, 0, 0⟩ : S40), (⟨t493, t494, t495, t496, t497⟩ : S40)] : List (S40))) (inner := [.int .u8 5, .int .u8 0, .int .u8 0, .int .i16 0, .int .i32 0, .int .u8 24, .int .u8 0, .int .u8 0, .int .i16 0, .int .i32 0, .int .u8 0, .int .u8 0, .int .u8 0, .int .i16 0, .int .i32 0, .int .u8 t493, .int .u8 t494, .int .u8 t495, .int .i16 t496, .int .i32 t497]) (ok := fun _ => True) (okp := fun _ => True) ?hr ?hp (fun _ hk => hk) trivial (Below.refl _ _) (Nat.le_refl _) (by simp) ?_; (case hd => rfl); (case hg => rfl); (case hr => first | (go_simp; done) | (go_simp; rfl)); (case hp => exact (Reps.c5 (show Kd.M k40 _ _ _ (⟨5, 0, 0, 0, 0⟩ : S40) [.int .u8 5, .int .u8 0, .int .u8 0, .int .i16 0, .int .i32 0] from (k40_mkM _ _ _ (⟨5, 0, 0, 0, 0⟩ : S40) )) (Reps.c5 (show Kd.M k40 _ _ _ (⟨24, 0, 0, 0, 0⟩ : S40) [.int .u8 24, .int .u8 0, .int .u8 0, .int .i16 0, .int .i32 0] from (k40_mkM _ _ _ (⟨24, 0, 0, 0, 0⟩ : S40) )) (Reps.c5 (show Kd.M k40 _ _ _ (⟨0, 0, 0, 0, 0⟩ : S40) [.int .u8 0, .int .u8 0, .int .u8 0, .int .i16 0, .int .i32 0] from (k40_mkM _ _ _ (⟨0, 0, 0, 0, 0⟩ : S40) )) (Reps.c5 (show Kd.M k40 _ _ _ (⟨t493, t494, t495, t496, t497⟩ : S40) [.int .u8 t493, .int .u8 t494, .int .u8 t495, .int .i16 t496, .int .i32 t497] from (k40_mkM _ _ _ (⟨t493, t494, t495, t496, t497⟩ : S40) )) (Reps.none _ _))))))
 intro v499 w21 ho22 hb hg_ hnew_
 clear hg_ hnew_
 (first | rw [← Ny498.out] at ho22 | (simp only [Int.reduceToNat] at ho22; rw [← Ny498.out] at ho22))
 have n0_ := Aside0.mk (Kd.R_elder' (by (with_reducible repeat (first | apply Kd.R_alloc | apply Kd.R_drewN | apply Kd.R_drew)); exact HO490.out) (Kd.R_base ho22) hb)
 have n1_ := Aside0.mk (Kd.R_lower (Kd.R_newB (Kd.R_new' ho22 (Kd.R_lt (by (with_reducible repeat (first | apply Kd.R_alloc | apply Kd.R_drewN | apply Kd.R_drew)); exact HO490.out))) (g := gb487) (o := .cells #[.int .u8 24, .int .u8 0, .int .u8 0, .int .i16 0, .int .i32 0] 40 (0, 0)) bk_now) (below_size b_now))
 have n2_ := Aside0.mk (blk_below (g := gb487) (o := .cells #[.int .u8 24, .int .u8 0, .int .u8 0, .int .i16 0, .int .i32 0] 40 (0, 0)) bk_now hb)
 have n3_ := Aside0.mk (below_step b_now hb)
 clear HO490
 clear BK487
 clear HB
 have HO490 := n0_
 have HO500 := n1_
 have BK487 := n2_
 have HB := n3_
 clear n0_ n1_ n2_ n3_
 clear hb ho22
 obtain ⟨Ao23, co23, eo23⟩ := Kd.R_slice HO500.out
 (first | subst eo23 | (injection eo23 with f1_ f2_ f3_; have f4_ := f1_.symm; have f5_ := f3_.symm; clear f1_ f2_ f3_; subst f4_; subst f5_))
 refine hK.out _ _ ⟨(blk_cell BK487.out 0).trans rfl, (blk_cell BK487.out 1).trans rfl, (blk_cell BK487.out 2).trans rfl, (blk_cell BK487.out 3).trans rfl, (blk_cell BK487.out 4).trans rfl⟩ (fun hHeld => ?_)
 clear hK K
 refine norm_ (a' := ?_) ?_ ?_
 rotate_left
 ·show Act.put _ (some 41) _ = _
  simp only [Act.put, List.setIfInBounds_toArray, List.set_cons_zero, List.set_cons_succ, i64_w, i32_w]
  rfl
 refine pure_ (i := 5) (N := some 42) (v := ?_) (a' := ?_) #[true, true, true, true, true, true, false, false, false, false, false, false] rfl rfl (any_of HT_.out (by kernel_rfl)) (fun _ _ _ h => h) (Or.inl ⟨by rfl, ?_⟩) ?_ ?_
 rotate_left
 ·intro w'
  go_simp
  with_reducible rfl
 rotate_left
 ·simp only [Act.put, List.setIfInBounds_toArray, List.set_cons_zero, List.set_cons_succ, i64_w, i32_w]
  rfl
 refine one_ (i := 6) (N := some 43) #[true, true, true, true, true, true, true, false, false, false, false, false] rfl rfl (one_of HT_.out (by kernel_rfl)) (by decide) (fun K hK => ?_)
 refine goes_ Tryd.func11 (by kernel_rfl) rfl #[.agg #[.slice none 0 0, .slice Ao23 y498.length co23]] (by rfl) rfl rfl (by (try simp only [List.map_toArray, List.map_cons, List.map_nil]); first | done | rfl | (simp only [List.length_drop, List.length_take]; rfl)) ?_
 refine (shape_Check.calls _ _ ([] : List (S52)) _ _ y498 t501 t502 _ ?side1 ?side2 ?side3 ?side4 ?side5 A3.out).mono ?_
 (case side1 => exact Kd.C_nil _ _)
 (case side2 => exact Nat.le_refl _)
 (case side3 => repeat (first | exact (Kd.R_reads' HO500.out).2.2 | (with_reducible refine Kd.C_alloc ?_ _) | (with_reducible refine Kd.C_drewN ?_ _) | (with_reducible refine Kd.C_drew ?_)))
 (case side4 => exact (Kd.R_reads' HO500.out).2.1)
 (case side5 => repeat (first | exact (Kd.C_below HRG0.out HB.out) | (with_reducible refine Kd.C_alloc ?_ _) | (with_reducible refine Kd.C_drewN ?_ _) | (with_reducible refine Kd.C_drew ?_)))
 rintro e w24 ⟨rfl, hb⟩
 refine ⟨_, rfl, ?_⟩
 have n0_ := Aside0.mk (Kd.R_below (by (with_reducible repeat (first | apply Kd.R_alloc | apply Kd.R_drewN | apply Kd.R_drew)); exact HO490.out) hb)
 have n1_ := Aside0.mk (Kd.R_below (by (with_reducible repeat (first | apply Kd.R_alloc | apply Kd.R_drewN | apply Kd.R_drew)); exact HO500.out) hb)
 have n2_ := Aside0.mk (blk_below (g := gb487) (o := .cells #[.int .u8 24, .int .u8 0, .int .u8 0, .int .i16 0, .int .i32 0] 40 (0, 0)) bk_now hb)
 have n3_ := Aside0.mk (below_step b_now hb)
 clear HO490
 clear HO500
 clear BK487
 clear HB
 have HO490 := n0_
 have HO500 := n1_
 have BK487 := n2_
 have HB := n3_
 clear n0_ n1_ n2_ n3_
 (try clear hb)
 (try clear hb2)
 (try clear hk)
 (try clear hi)
 refine hK.out _ _ ⟨(blk_cell BK487.out 0).trans rfl, (blk_cell BK487.out 1).trans rfl, (blk_cell BK487.out 2).trans rfl, (blk_cell BK487.out 3).trans rfl, (blk_cell BK487.out 4).trans rfl⟩ (fun hHeld => ?_)
 clear hK K
 refine norm_ (a' := ?_) ?_ ?_
 rotate_left
 ·show Act.put _ (some 43) _ = _
  simp only [Act.put, List.setIfInBounds_toArray, List.set_cons_zero, List.set_cons_succ, i64_w, i32_w]
  rfl
 refine pure_ (i := 7) (N := some 36) (v := ?_) (a' := ?_) #[true, true, true, true, true, true, true, true, false, false, false, false] rfl rfl (any_of HT_.out (by kernel_rfl)) (fun _ _ _ h => h) (Or.inl ⟨by rfl, ?_⟩) ?_ ?_
 rotate_left
 ·intro w'
  go_simp
  with_reducible rfl
 rotate_left
 ·simp only [Act.put, List.setIfInBounds_toArray, List.set_cons_zero, List.set_cons_succ, i64_w, i32_w]
  rfl
 refine pure_ (i := 8) (N := some 44) (v := ?_) (a' := ?_) #[true, true, true, true, true, true, true, true, true, false, false, false] rfl rfl (any_of HT_.out (by kernel_rfl)) (fun _ _ _ h => h) (Or.inl ⟨by rfl, ?_⟩) ?_ ?_
 rotate_left
 ·intro w'
  go_simp
  with_reducible rfl
 rotate_left
 ·simp only [Act.put, List.setIfInBounds_toArray, List.set_cons_zero, List.set_cons_succ, i64_w, i32_w]
  rfl
 refine pure_ (i := 9) (N := some 45) (v := ?_) (a' := ?_) #[true, true, true, true, true, true, true, true, true, true, false, false] rfl rfl (any_of HT_.out (by kernel_rfl)) (fun _ _ _ h => h) (Or.inl ⟨by rfl, ?_⟩) ?_ ?_
 rotate_left
 ·intro w'
  go_simp
  with_reducible rfl
 rotate_left
 ·simp only [Act.put, List.setIfInBounds_toArray, List.set_cons_zero, List.set_cons_succ, i64_w, i32_w]
  rfl
 refine pure_ (i := 10) (N := some 4) (v := ?_) (a' := ?_) #[true, true, true, true, true, true, true, true, true, true, true, false] rfl rfl (any_of HT_.out (by kernel_rfl)) (fun _ _ _ h => h) (Or.inl ⟨by rfl, ?_⟩) ?_ ?_
 rotate_left
 ·intro w'
  go_simp
  with_reducible rfl
 rotate_left
 ·simp only [Act.put, List.setIfInBounds_toArray, List.set_cons_zero, List.set_cons_succ, i64_w, i32_w]
  rfl
 refine pure_ (i := 11) (N := some 5) (v := ?_) (a' := ?_) #[true, true, true, true, true, true, true, true, true, true, true, true] rfl rfl (any_of HT_.out (by kernel_rfl)) (fun _ _ _ h => h) (Or.inl ⟨by rfl, ?_⟩) ?_ ?_
 rotate_left
 ·intro w'
  go_simp
  with_reducible rfl
 rotate_left
 ·simp only [Act.put, List.setIfInBounds_toArray, List.set_cons_zero, List.set_cons_succ, i64_w, i32_w]
  rfl
 refine done_ (done_of HT_.out (by kernel_rfl)) ?_
 try go_wp2
 have n0_ := Aside0.mk (Kd.R_drew HO490.out)
 have n1_ := Aside0.mk (Kd.R_drew HO500.out)
 have n2_ := Aside0.mk (blk_drew BK487.out)
 have n3_ := Aside0.mk (below_drew1 HB.out)
 clear HO490
 clear HO500
 clear BK487
 clear HB
 have HO490 := n0_
 have HO500 := n1_
 have BK487 := n2_
 have HB := n3_
 clear n0_ n1_ n2_ n3_
 refine start_ (n := 12) (S := fun w' => w'.cell? ⟨gb487, 0, none⟩ = some (.int .u8 24) ∧ w'.cell? ⟨gb487, 1, none⟩ = some (.int .u8 0) ∧ w'.cell? ⟨gb487, 2, none⟩ = some (.int .u8 0) ∧ w'.cell? ⟨gb487, 3, none⟩ = some (.int .i16 0) ∧ w'.cell? ⟨gb487, 4, none⟩ = some (.int .i32 0)) (ds := []) #[false, false, false, false, false, false, false, false, false, false, false, false] (by kernel_rfl) rfl rfl ⟨(blk_cell BK487.out 0).trans rfl, (blk_cell BK487.out 1).trans rfl, (blk_cell BK487.out 2).trans rfl, (blk_cell BK487.out 3).trans rfl, (blk_cell BK487.out 4).trans rfl⟩ (fun hHeld => ?_); refine with_tabW stockadelaw04_ShapeKnown.tab4 stockadelaw04_ShapeKnown.bits4 (fun HT_ HW_ => ?_)
 generalize w24.drew = w25 at HO490 HO500 BK487 HB hHeld ⊢
 refine pure_ (i := 0) (N := some 47) (v := ?_) (a' := ?_) #[true, false, false, false, false, false, false, false, false, false, false, false] rfl rfl (any_of HT_.out (by kernel_rfl)) (fun _ _ _ h => h) (Or.inl ⟨by rfl, ?_⟩) ?_ ?_
 rotate_left
 ·intro w'
  go_simp
  with_reducible rfl
 rotate_left
 ·simp only [Act.put, List.setIfInBounds_toArray, List.set_cons_zero, List.set_cons_succ, i64_w, i32_w]
  rfl
 refine pure_ (i := 2) (N := some 49) (v := ?_) (a' := ?_) #[true, false, true, false, false, false, false, false, false, false, false, false] rfl rfl (any_of HT_.out (by kernel_rfl)) (fun _ _ _ h => h) (Or.inl ⟨by rfl, ?_⟩) ?_ ?_
 rotate_left
 ·intro w'
  go_simp
  with_reducible rfl
 rotate_left
 ·simp only [Act.put, List.setIfInBounds_toArray, List.set_cons_zero, List.set_cons_succ, i64_w, i32_w]
  rfl
 refine take_ (i := 1) (N := some 48) (v := ?_) (a' := ?_) #[true, true, true, false, false, false, false, false, false, false, false, false] rfl rfl (take_ofW HT_.out HW_.out (by kernel_rfl)) (fun _ _ _ h => h) (Or.inl ⟨by rfl, ?_⟩) hHeld ?_ ?_
 rotate_left
 ·rintro w' ⟨s0, s1, s2, s3, s4⟩
  go_simp
  with_reducible rfl
 rotate_left
 ·simp only [Act.put, List.setIfInBounds_toArray, List.set_cons_zero, List.set_cons_succ, i64_w, i32_w]
  rfl
 refine one_ (i := 3) (N := some 50) #[true, true, true, true, false, false, false, false, false, false, false, false] rfl rfl (one_of HT_.out (by kernel_rfl)) (by decide) (fun K hK => ?_)
 refine goes_ Tryd.func24 (by kernel_rfl) rfl #[] (by rfl) rfl rfl (by (try simp only [List.map_toArray, List.map_cons, List.map_nil]); first | done | rfl | (simp only [List.length_drop, List.length_take]; rfl)) ?_
 with_reducible refine (stockadelaw04_exit.calls  t503 t504 t505 t506 t507 _ A4.out).mono ?_
 rintro e w26 ⟨rfl, hb⟩
 refine ⟨_, rfl, ?_⟩
 have n0_ := Aside0.mk (Kd.R_below (by (with_reducible repeat (first | apply Kd.R_alloc | apply Kd.R_drewN | apply Kd.R_drew)); exact HO490.out) hb)
 have n1_ := Aside0.mk (Kd.R_below (by (with_reducible repeat (first | apply Kd.R_alloc | apply Kd.R_drewN | apply Kd.R_drew)); exact HO500.out) hb)
 have n2_ := Aside0.mk (blk_below (g := gb487) (o := .cells #[.int .u8 24, .int .u8 0, .int .u8 0, .int .i16 0, .int .i32 0] 40 (0, 0)) bk_now hb)
 have n3_ := Aside0.mk (below_step b_now hb)
 clear HO490
 clear HO500
 clear BK487
 clear HB
 have HO490 := n0_
 have HO500 := n1_
 have BK487 := n2_
 have HB := n3_
 clear n0_ n1_ n2_ n3_
 (try clear hb)
 (try clear hb2)
 (try clear hk)
 (try clear hi)
 refine hK.out _ _ ⟨(blk_cell BK487.out 0).trans rfl, (blk_cell BK487.out 1).trans rfl, (blk_cell BK487.out 2).trans rfl, (blk_cell BK487.out 3).trans rfl, (blk_cell BK487.out 4).trans rfl⟩ (fun hHeld => ?_)
 clear hK K
 refine norm_ (a' := ?_) ?_ ?_
 rotate_left
 ·show Act.put _ (some 50) _ = _
  simp only [Act.put, List.setIfInBounds_toArray, List.set_cons_zero, List.set_cons_succ, i64_w, i32_w]
  rfl
 refine one_ (i := 4) (N := some 51) #[true, true, true, true, true, false, false, false, false, false, false, false] rfl rfl (one_of HT_.out (by kernel_rfl)) (by decide) (fun K hK => ?_)
 refine Kd.R_lit_step k40 _ 40 ?hg (N := 51) ?hd (xs := ([(⟨5, 0, 0, 1, 0⟩ : S40), (⟨24, 0, 0, 0, 0⟩ : S40), (⟨0, 0, 0, 0, 0⟩ : S40), (⟨t503, t504, t505, t506, t507⟩ : S40)] : List (S40))) (inner := [.int .u8 5, .int .u8 0, .int .u8 0, .int .i16 1, .int .i32 0, .int .u8 24, .int .u8 0, .int .u8 0, .int .i16 0, .int .i32 0, .int .u8 0, .int .u8 0, .int .u8 0, .int .i16 0, .int .i32 0, .int .u8 t503, .int .u8 t504, .int .u8 t505, .int .i16 t506, .int .i32 t507]) (ok := fun _ => True) (okp := fun _ => True) ?hr ?hp (fun _ hk => hk) trivial (Below.refl _ _) (Nat.le_refl _) (by simp) ?_; (case hd => rfl); (case hg => rfl); (case hr => first | (go_simp; done) | (go_simp; rfl)); (case hp => exact (Reps.c5 (show Kd.M k40 _ _ _ (⟨5, 0, 0, 1, 0⟩ : S40) [.int .u8 5, .int .u8 0, .int .u8 0, .int .i16 1, .int .i32 0] from (k40_mkM _ _ _ (⟨5, 0, 0, 1, 0⟩ : S40) )) (Reps.c5 (show Kd.M k40 _ _ _ (⟨24, 0, 0, 0, 0⟩ : S40) [.int .u8 24, .int .u8 0, .int .u8 0, .int .i16 0, .int .i32 0] from (k40_mkM _ _ _ (⟨24, 0, 0, 0, 0⟩ : S40) )) (Reps.c5 (show Kd.M k40 _ _ _ (⟨0, 0, 0, 0, 0⟩ : S40) [.int .u8 0, .int .u8 0, .int .u8 0, .int .i16 0, .int .i32 0] from (k40_mkM _ _ _ (⟨0, 0, 0, 0, 0⟩ : S40) )) (Reps.c5 (show Kd.M k40 _ _ _ (⟨t503, t504, t505, t506, t507⟩ : S40) [.int .u8 t503, .int .u8 t504, .int .u8 t505, .int .i16 t506, .int .i32 t507] from (k40_mkM _ _ _ (⟨t503, t504, t505, t506, t507⟩ : S40) )) (Reps.none _ _))))))
 intro v509 w27 ho28 hb hg_ hnew_
 clear hg_ hnew_
 (first | rw [← Ny508.out] at ho28 | (simp only [Int.reduceToNat] at ho28; rw [← Ny508.out] at ho28))
 have n0_ := Aside0.mk (Kd.R_elder' (by (with_reducible repeat (first | apply Kd.R_alloc | apply Kd.R_drewN | apply Kd.R_drew)); exact HO490.out) (Kd.R_base ho28) hb)
 have n1_ := Aside0.mk (Kd.R_elder' (by (with_reducible repeat (first | apply Kd.R_alloc | apply Kd.R_drewN | apply Kd.R_drew)); exact HO500.out) (Kd.R_base ho28) hb)
 have n2_ := Aside0.mk (Kd.R_lower (Kd.R_newB (Kd.R_new' (Kd.R_new' ho28 (Kd.R_lt (by (with_reducible repeat (first | apply Kd.R_alloc | apply Kd.R_drewN | apply Kd.R_drew)); exact HO490.out))) (Kd.R_lt (by (with_reducible repeat (first | apply Kd.R_alloc | apply Kd.R_drewN | apply Kd.R_drew)); exact HO500.out))) (g := gb487) (o := .cells #[.int .u8 24, .int .u8 0, .int .u8 0, .int .i16 0, .int .i32 0] 40 (0, 0)) bk_now) (below_size b_now))
 have n3_ := Aside0.mk (blk_below (g := gb487) (o := .cells #[.int .u8 24, .int .u8 0, .int .u8 0, .int .i16 0, .int .i32 0] 40 (0, 0)) bk_now hb)
 have n4_ := Aside0.mk (below_step b_now hb)
 clear HO490
 clear HO500
 clear BK487
 clear HB
 have HO490 := n0_
 have HO500 := n1_
 have HO510 := n2_
 have BK487 := n3_
 have HB := n4_
 clear n0_ n1_ n2_ n3_ n4_
 clear hb ho28
 obtain ⟨Ao29, co29, eo29⟩ := Kd.R_slice HO510.out
 (first | subst eo29 | (injection eo29 with f1_ f2_ f3_; have f4_ := f1_.symm; have f5_ := f3_.symm; clear f1_ f2_ f3_; subst f4_; subst f5_))
 refine hK.out _ _ ⟨(blk_cell BK487.out 0).trans rfl, (blk_cell BK487.out 1).trans rfl, (blk_cell BK487.out 2).trans rfl, (blk_cell BK487.out 3).trans rfl, (blk_cell BK487.out 4).trans rfl⟩ (fun hHeld => ?_)
 clear hK K
 refine norm_ (a' := ?_) ?_ ?_
 rotate_left
 ·show Act.put _ (some 51) _ = _
  simp only [Act.put, List.setIfInBounds_toArray, List.set_cons_zero, List.set_cons_succ, i64_w, i32_w]
  rfl
 refine pure_ (i := 5) (N := some 52) (v := ?_) (a' := ?_) #[true, true, true, true, true, true, false, false, false, false, false, false] rfl rfl (any_of HT_.out (by kernel_rfl)) (fun _ _ _ h => h) (Or.inl ⟨by rfl, ?_⟩) ?_ ?_
 rotate_left
 ·intro w'
  go_simp
  with_reducible rfl
 rotate_left
 ·simp only [Act.put, List.setIfInBounds_toArray, List.set_cons_zero, List.set_cons_succ, i64_w, i32_w]
  rfl
 refine one_ (i := 6) (N := some 53) #[true, true, true, true, true, true, true, false, false, false, false, false] rfl rfl (one_of HT_.out (by kernel_rfl)) (by decide) (fun K hK => ?_)
 refine goes_ Tryd.func11 (by kernel_rfl) rfl #[.agg #[.slice none 0 0, .slice Ao29 y508.length co29]] (by rfl) rfl rfl (by (try simp only [List.map_toArray, List.map_cons, List.map_nil]); first | done | rfl | (simp only [List.length_drop, List.length_take]; rfl)) ?_
 refine (shape_Check.calls _ _ ([] : List (S52)) _ _ y508 t511 t512 _ ?side1 ?side2 ?side3 ?side4 ?side5 A5.out).mono ?_
 (case side1 => exact Kd.C_nil _ _)
 (case side2 => exact Nat.le_refl _)
 (case side3 => repeat (first | exact (Kd.R_reads' HO510.out).2.2 | (with_reducible refine Kd.C_alloc ?_ _) | (with_reducible refine Kd.C_drewN ?_ _) | (with_reducible refine Kd.C_drew ?_)))
 (case side4 => exact (Kd.R_reads' HO510.out).2.1)
 (case side5 => repeat (first | exact (Kd.C_below HRG0.out HB.out) | (with_reducible refine Kd.C_alloc ?_ _) | (with_reducible refine Kd.C_drewN ?_ _) | (with_reducible refine Kd.C_drew ?_)))
 rintro e w30 ⟨rfl, hb⟩
 refine ⟨_, rfl, ?_⟩
 have n0_ := Aside0.mk (Kd.R_below (by (with_reducible repeat (first | apply Kd.R_alloc | apply Kd.R_drewN | apply Kd.R_drew)); exact HO490.out) hb)
 have n1_ := Aside0.mk (Kd.R_below (by (with_reducible repeat (first | apply Kd.R_alloc | apply Kd.R_drewN | apply Kd.R_drew)); exact HO500.out) hb)
 have n2_ := Aside0.mk (Kd.R_below (by (with_reducible repeat (first | apply Kd.R_alloc | apply Kd.R_drewN | apply Kd.R_drew)); exact HO510.out) hb)
 have n3_ := Aside0.mk (blk_below (g := gb487) (o := .cells #[.int .u8 24, .int .u8 0, .int .u8 0, .int .i16 0, .int .i32 0] 40 (0, 0)) bk_now hb)
 have n4_ := Aside0.mk (below_step b_now hb)
 clear HO490
 clear HO500
 clear HO510
 clear BK487
 clear HB
 have HO490 := n0_
 have HO500 := n1_
 have HO510 := n2_
 have BK487 := n3_
 have HB := n4_
 clear n0_ n1_ n2_ n3_ n4_
 (try clear hb)
 (try clear hb2)
 (try clear hk)
 (try clear hi)
 refine hK.out _ _ ⟨(blk_cell BK487.out 0).trans rfl, (blk_cell BK487.out 1).trans rfl, (blk_cell BK487.out 2).trans rfl, (blk_cell BK487.out 3).trans rfl, (blk_cell BK487.out 4).trans rfl⟩ (fun hHeld => ?_)
 clear hK K
 refine norm_ (a' := ?_) ?_ ?_
 rotate_left
 ·show Act.put _ (some 53) _ = _
  simp only [Act.put, List.setIfInBounds_toArray, List.set_cons_zero, List.set_cons_succ, i64_w, i32_w]
  rfl
 refine pure_ (i := 7) (N := some 46) (v := ?_) (a' := ?_) #[true, true, true, true, true, true, true, true, false, false, false, false] rfl rfl (any_of HT_.out (by kernel_rfl)) (fun _ _ _ h => h) (Or.inl ⟨by rfl, ?_⟩) ?_ ?_
 rotate_left
 ·intro w'
  go_simp
  with_reducible rfl
 rotate_left
 ·simp only [Act.put, List.setIfInBounds_toArray, List.set_cons_zero, List.set_cons_succ, i64_w, i32_w]
  rfl
 refine pure_ (i := 8) (N := some 54) (v := ?_) (a' := ?_) #[true, true, true, true, true, true, true, true, true, false, false, false] rfl rfl (any_of HT_.out (by kernel_rfl)) (fun _ _ _ h => h) (Or.inl ⟨by rfl, ?_⟩) ?_ ?_
 rotate_left
 ·intro w'
  go_simp
  with_reducible rfl
 rotate_left
 ·simp only [Act.put, List.setIfInBounds_toArray, List.set_cons_zero, List.set_cons_succ, i64_w, i32_w]
  rfl
 refine pure_ (i := 9) (N := some 55) (v := ?_) (a' := ?_) #[true, true, true, true, true, true, true, true, true, true, false, false] rfl rfl (any_of HT_.out (by kernel_rfl)) (fun _ _ _ h => h) (Or.inl ⟨by rfl, ?_⟩) ?_ ?_
 rotate_left
 ·intro w'
  go_simp
  with_reducible rfl
 rotate_left
 ·simp only [Act.put, List.setIfInBounds_toArray, List.set_cons_zero, List.set_cons_succ, i64_w, i32_w]
  rfl
 refine pure_ (i := 10) (N := some 6) (v := ?_) (a' := ?_) #[true, true, true, true, true, true, true, true, true, true, true, false] rfl rfl (any_of HT_.out (by kernel_rfl)) (fun _ _ _ h => h) (Or.inl ⟨by rfl, ?_⟩) ?_ ?_
 rotate_left
 ·intro w'
  go_simp
  with_reducible rfl
 rotate_left
 ·simp only [Act.put, List.setIfInBounds_toArray, List.set_cons_zero, List.set_cons_succ, i64_w, i32_w]
  rfl
 refine pure_ (i := 11) (N := some 7) (v := ?_) (a' := ?_) #[true, true, true, true, true, true, true, true, true, true, true, true] rfl rfl (any_of HT_.out (by kernel_rfl)) (fun _ _ _ h => h) (Or.inl ⟨by rfl, ?_⟩) ?_ ?_
 rotate_left
 ·intro w'
  go_simp
  with_reducible rfl
 rotate_left
 ·simp only [Act.put, List.setIfInBounds_toArray, List.set_cons_zero, List.set_cons_succ, i64_w, i32_w]
  rfl
 refine done_ (done_of HT_.out (by kernel_rfl)) ?_
 try go_wp2_with (first | ((with_reducible refine gate_callee (f := 24) rfl ?_); refine sh_call (some 58) Tryd.func24 #[] ?_; (with_reducible refine (stockadelaw04_exit.calls  t513 t514 t515 t516 t517 _ A6.out).mono ?_); rintro e w31 ⟨rfl, hb⟩; refine ⟨_, rfl, ?_⟩; replace HO490 := Aside0.mk (Kd.R_below (by (with_reducible repeat (first | apply Kd.R_alloc | apply Kd.R_drewN | apply Kd.R_drew)); exact HO490.out) hb); replace HO500 := Aside0.mk (Kd.R_below (by (with_reducible repeat (first | apply Kd.R_alloc | apply Kd.R_drewN | apply Kd.R_drew)); exact HO500.out) hb); replace HO510 := Aside0.mk (Kd.R_below (by (with_reducible repeat (first | apply Kd.R_alloc | apply Kd.R_drewN | apply Kd.R_drew)); exact HO510.out) hb); replace BK487 := sh_k BK487 hb; replace HB := sh_b (w := w) hb; (try clear hb); (try clear hb2); (try clear hk); (try clear hi)) | ((with_reducible refine gate_dst (N := 59) rfl ?_); refine Kd.R_lit k40 _ 40 ?hg (N := 59) ?hd (xs := ([(⟨133, 0, 0, 0, 4⟩ : S40), (⟨t513, t514, t515, t516, t517⟩ : S40)] : List (S40))) (inner := [.int .u8 133, .int .u8 0, .int .u8 0, .int .i16 0, .int .i32 4, .int .u8 t513, .int .u8 t514, .int .u8 t515, .int .i16 t516, .int .i32 t517]) (ok := fun _ => True) (okp := fun _ => True) ?hr ?hp (fun _ hk => hk) trivial (Below.refl _ _) (Nat.le_refl _) (by simp) ?_; (case hd => rfl); (case hg => rfl); (case hr => first | (go_simp; done) | (go_simp; rfl)); (case hp => exact (Reps.c5 (show Kd.M k40 _ _ _ (⟨133, 0, 0, 0, 4⟩ : S40) [.int .u8 133, .int .u8 0, .int .u8 0, .int .i16 0, .int .i32 4] from (k40_mkM _ _ _ (⟨133, 0, 0, 0, 4⟩ : S40) )) (Reps.c5 (show Kd.M k40 _ _ _ (⟨t513, t514, t515, t516, t517⟩ : S40) [.int .u8 t513, .int .u8 t514, .int .u8 t515, .int .i16 t516, .int .i32 t517] from (k40_mkM _ _ _ (⟨t513, t514, t515, t516, t517⟩ : S40) )) (Reps.none _ _)))); intro v519 w32 ho33 hb hg_ hnew_; clear hg_ hnew_; (first | rw [← Ny518.out] at ho33 | (simp only [Int.reduceToNat] at ho33; rw [← Ny518.out] at ho33)); have HO520 := Aside0.mk (Kd.R_lower (Kd.R_newB (Kd.R_new' (Kd.R_new' (Kd.R_new' ho33 (Kd.R_lt (by (with_reducible repeat (first | apply Kd.R_alloc | apply Kd.R_drewN | apply Kd.R_drew)); exact HO490.out))) (Kd.R_lt (by (with_reducible repeat (first | apply Kd.R_alloc | apply Kd.R_drewN | apply Kd.R_drew)); exact HO500.out))) (Kd.R_lt (by (with_reducible repeat (first | apply Kd.R_alloc | apply Kd.R_drewN | apply Kd.R_drew)); exact HO510.out))) (g := gb487) (o := .cells #[.int .u8 24, .int .u8 0, .int .u8 0, .int .i16 0, .int .i32 0] 40 (0, 0)) bk_now) (below_size b_now)); replace HO490 := Aside0.mk (Kd.R_elder' (by (with_reducible repeat (first | apply Kd.R_alloc | apply Kd.R_drewN | apply Kd.R_drew)); exact HO490.out) (Kd.R_base ho33) hb); replace HO500 := Aside0.mk (Kd.R_elder' (by (with_reducible repeat (first | apply Kd.R_alloc | apply Kd.R_drewN | apply Kd.R_drew)); exact HO500.out) (Kd.R_base ho33) hb); replace HO510 := Aside0.mk (Kd.R_elder' (by (with_reducible repeat (first | apply Kd.R_alloc | apply Kd.R_drewN | apply Kd.R_drew)); exact HO510.out) (Kd.R_base ho33) hb); replace BK487 := sh_k BK487 hb; replace HB := sh_b (w := w) hb; clear hb ho33; obtain ⟨Ao34, co34, eo34⟩ := Kd.R_slice HO520.out; subst eo34) | ((with_reducible refine gate_callee (f := 11) rfl ?_); refine sh_call (some 61) Tryd.func11 #[.agg #[.slice none 0 0, .slice Ao34 y518.length co34]] ?_; (refine (shape_Check.calls _ _ ([] : List (S52)) _ _ y518 t521 t522 _ ?side1 ?side2 ?side3 ?side4 ?side5 A7.out).mono ?_); (case side1 => exact Kd.C_nil _ _); (case side2 => exact Nat.le_refl _); (case side3 => repeat (first | exact (Kd.R_reads' HO520.out).2.2 | (with_reducible refine Kd.C_alloc ?_ _) | (with_reducible refine Kd.C_drewN ?_ _) | (with_reducible refine Kd.C_drew ?_))); (case side4 => exact (Kd.R_reads' HO520.out).2.1); (case side5 => repeat (first | exact (Kd.C_below HRG0.out HB.out) | (with_reducible refine Kd.C_alloc ?_ _) | (with_reducible refine Kd.C_drewN ?_ _) | (with_reducible refine Kd.C_drew ?_))); rintro e w35 ⟨rfl, hb⟩; refine ⟨_, rfl, ?_⟩; replace HO490 := Aside0.mk (Kd.R_below (by (with_reducible repeat (first | apply Kd.R_alloc | apply Kd.R_drewN | apply Kd.R_drew)); exact HO490.out) hb); replace HO500 := Aside0.mk (Kd.R_below (by (with_reducible repeat (first | apply Kd.R_alloc | apply Kd.R_drewN | apply Kd.R_drew)); exact HO500.out) hb); replace HO510 := Aside0.mk (Kd.R_below (by (with_reducible repeat (first | apply Kd.R_alloc | apply Kd.R_drewN | apply Kd.R_drew)); exact HO510.out) hb); replace HO520 := Aside0.mk (Kd.R_below (by (with_reducible repeat (first | apply Kd.R_alloc | apply Kd.R_drewN | apply Kd.R_drew)); exact HO520.out) hb); replace BK487 := sh_k BK487 hb; replace HB := sh_b (w := w) hb; (try clear hb); (try clear hb2); (try clear hk); (try clear hi)) | ((with_reducible refine gate_callee (f := 24) rfl ?_); refine sh_call (some 64) Tryd.func24 #[] ?_; (with_reducible refine (stockadelaw04_exit.calls  t523 t524 t525 t526 t527 _ A8.out).mono ?_); rintro e w36 ⟨rfl, hb⟩; refine ⟨_, rfl, ?_⟩; replace HO490 := Aside0.mk (Kd.R_below (by (with_reducible repeat (first | apply Kd.R_alloc | apply Kd.R_drewN | apply Kd.R_drew)); exact HO490.out) hb); replace HO500 := Aside0.mk (Kd.R_below (by (with_reducible repeat (first | apply Kd.R_alloc | apply Kd.R_drewN | apply Kd.R_drew)); exact HO500.out) hb); replace HO510 := Aside0.mk (Kd.R_below (by (with_reducible repeat (first | apply Kd.R_alloc | apply Kd.R_drewN | apply Kd.R_drew)); exact HO510.out) hb); replace HO520 := Aside0.mk (Kd.R_below (by (with_reducible repeat (first | apply Kd.R_alloc | apply Kd.R_drewN | apply Kd.R_drew)); exact HO520.out) hb); replace BK487 := sh_k BK487 hb; replace HB := sh_b (w := w) hb; (try clear hb); (try clear hb2); (try clear hk); (try clear hi)) | ((with_reducible refine gate_callee (f := 24) rfl ?_); refine sh_call (some 67) Tryd.func24 #[] ?_; (with_reducible refine (stockadelaw04_exit.calls  t528 t529 t530 t531 t532 _ A9.out).mono ?_); rintro e w37 ⟨rfl, hb⟩; refine ⟨_, rfl, ?_⟩; replace HO490 := Aside0.mk (Kd.R_below (by (with_reducible repeat (first | apply Kd.R_alloc | apply Kd.R_drewN | apply Kd.R_drew)); exact HO490.out) hb); replace HO500 := Aside0.mk (Kd.R_below (by (with_reducible repeat (first | apply Kd.R_alloc | apply Kd.R_drewN | apply Kd.R_drew)); exact HO500.out) hb); replace HO510 := Aside0.mk (Kd.R_below (by (with_reducible repeat (first | apply Kd.R_alloc | apply Kd.R_drewN | apply Kd.R_drew)); exact HO510.out) hb); replace HO520 := Aside0.mk (Kd.R_below (by (with_reducible repeat (first | apply Kd.R_alloc | apply Kd.R_drewN | apply Kd.R_drew)); exact HO520.out) hb); replace BK487 := sh_k BK487 hb; replace HB := sh_b (w := w) hb; (try clear hb); (try clear hb2); (try clear hk); (try clear hi)) | ((with_reducible refine gate_dst (N := 68) rfl ?_); refine Kd.R_lit k40 _ 40 ?hg (N := 68) ?hd (xs := ([(⟨t523, t524, t525, t526, t527⟩ : S40), (⟨24, 0, 1, 0, 0⟩ : S40), (⟨0, 0, 0, 0, 0⟩ : S40), (⟨t528, t529, t530, t531, t532⟩ : S40)] : List (S40))) (inner := [.int .u8 t523, .int .u8 t524, .int .u8 t525, .int .i16 t526, .int .i32 t527, .int .u8 24, .int .u8 0, .int .u8 1, .int .i16 0, .int .i32 0, .int .u8 0, .int .u8 0, .int .u8 0, .int .i16 0, .int .i32 0, .int .u8 t528, .int .u8 t529, .int .u8 t530, .int .i16 t531, .int .i32 t532]) (ok := fun _ => True) (okp := fun _ => True) ?hr ?hp (fun _ hk => hk) trivial (Below.refl _ _) (Nat.le_refl _) (by simp) ?_; (case hd => rfl); (case hg => rfl); (case hr => first | (go_simp; done) | (go_simp; rfl)); (case hp => exact (Reps.c5 (show Kd.M k40 _ _ _ (⟨t523, t524, t525, t526, t527⟩ : S40) [.int .u8 t523, .int .u8 t524, .int .u8 t525, .int .i16 t526, .int .i32 t527] from (k40_mkM _ _ _ (⟨t523, t524, t525, t526, t527⟩ : S40) )) (Reps.c5 (show Kd.M k40 _ _ _ (⟨24, 0, 1, 0, 0⟩ : S40) [.int .u8 24, .int .u8 0, .int .u8 1, .int .i16 0, .int .i32 0] from (k40_mkM _ _ _ (⟨24, 0, 1, 0, 0⟩ : S40) )) (Reps.c5 (show Kd.M k40 _ _ _ (⟨0, 0, 0, 0, 0⟩ : S40) [.int .u8 0, .int .u8 0, .int .u8 0, .int .i16 0, .int .i32 0] from (k40_mkM _ _ _ (⟨0, 0, 0, 0, 0⟩ : S40) )) (Reps.c5 (show Kd.M k40 _ _ _ (⟨t528, t529, t530, t531, t532⟩ : S40) [.int .u8 t528, .int .u8 t529, .int .u8 t530, .int .i16 t531, .int .i32 t532] from (k40_mkM _ _ _ (⟨t528, t529, t530, t531, t532⟩ : S40) )) (Reps.none _ _)))))); intro v534 w38 ho39 hb hg_ hnew_; clear hg_ hnew_; (first | rw [← Ny533.out] at ho39 | (simp only [Int.reduceToNat] at ho39; rw [← Ny533.out] at ho39)); have HO535 := Aside0.mk (Kd.R_lower (Kd.R_newB (Kd.R_new' (Kd.R_new' (Kd.R_new' (Kd.R_new' ho39 (Kd.R_lt (by (with_reducible repeat (first | apply Kd.R_alloc | apply Kd.R_drewN | apply Kd.R_drew)); exact HO490.out))) (Kd.R_lt (by (with_reducible repeat (first | apply Kd.R_alloc | apply Kd.R_drewN | apply Kd.R_drew)); exact HO500.out))) (Kd.R_lt (by (with_reducible repeat (first | apply Kd.R_alloc | apply Kd.R_drewN | apply Kd.R_drew)); exact HO510.out))) (Kd.R_lt (by (with_reducible repeat (first | apply Kd.R_alloc | apply Kd.R_drewN | apply Kd.R_drew)); exact HO520.out))) (g := gb487) (o := .cells #[.int .u8 24, .int .u8 0, .int .u8 0, .int .i16 0, .int .i32 0] 40 (0, 0)) bk_now) (below_size b_now)); replace HO490 := Aside0.mk (Kd.R_elder' (by (with_reducible repeat (first | apply Kd.R_alloc | apply Kd.R_drewN | apply Kd.R_drew)); exact HO490.out) (Kd.R_base ho39) hb); replace HO500 := Aside0.mk (Kd.R_elder' (by (with_reducible repeat (first | apply Kd.R_alloc | apply Kd.R_drewN | apply Kd.R_drew)); exact HO500.out) (Kd.R_base ho39) hb); replace HO510 := Aside0.mk (Kd.R_elder' (by (with_reducible repeat (first | apply Kd.R_alloc | apply Kd.R_drewN | apply Kd.R_drew)); exact HO510.out) (Kd.R_base ho39) hb); replace HO520 := Aside0.mk (Kd.R_elder' (by (with_reducible repeat (first | apply Kd.R_alloc | apply Kd.R_drewN | apply Kd.R_drew)); exact HO520.out) (Kd.R_base ho39) hb); replace BK487 := sh_k BK487 hb; replace HB := sh_b (w := w) hb; clear hb ho39; obtain ⟨Ao40, co40, eo40⟩ := Kd.R_slice HO535.out; subst eo40) | ((with_reducible refine gate_callee (f := 11) rfl ?_); refine sh_call (some 72) Tryd.func11 #[.agg #[.slice none 0 0, .slice Ao40 y533.length co40]] ?_; (refine (shape_Check.calls _ _ ([] : List (S52)) _ _ y533 t536 t537 _ ?side1 ?side2 ?side3 ?side4 ?side5 A10.out).mono ?_); (case side1 => exact Kd.C_nil _ _); (case side2 => exact Nat.le_refl _); (case side3 => repeat (first | exact (Kd.R_reads' HO535.out).2.2 | (with_reducible refine Kd.C_alloc ?_ _) | (with_reducible refine Kd.C_drewN ?_ _) | (with_reducible refine Kd.C_drew ?_))); (case side4 => exact (Kd.R_reads' HO535.out).2.1); (case side5 => repeat (first | exact (Kd.C_below HRG0.out HB.out) | (with_reducible refine Kd.C_alloc ?_ _) | (with_reducible refine Kd.C_drewN ?_ _) | (with_reducible refine Kd.C_drew ?_))); rintro e w41 ⟨rfl, hb⟩; refine ⟨_, rfl, ?_⟩; replace HO490 := Aside0.mk (Kd.R_below (by (with_reducible repeat (first | apply Kd.R_alloc | apply Kd.R_drewN | apply Kd.R_drew)); exact HO490.out) hb); replace HO500 := Aside0.mk (Kd.R_below (by (with_reducible repeat (first | apply Kd.R_alloc | apply Kd.R_drewN | apply Kd.R_drew)); exact HO500.out) hb); replace HO510 := Aside0.mk (Kd.R_below (by (with_reducible repeat (first | apply Kd.R_alloc | apply Kd.R_drewN | apply Kd.R_drew)); exact HO510.out) hb); replace HO520 := Aside0.mk (Kd.R_below (by (with_reducible repeat (first | apply Kd.R_alloc | apply Kd.R_drewN | apply Kd.R_drew)); exact HO520.out) hb); replace HO535 := Aside0.mk (Kd.R_below (by (with_reducible repeat (first | apply Kd.R_alloc | apply Kd.R_drewN | apply Kd.R_drew)); exact HO535.out) hb); replace BK487 := sh_k BK487 hb; replace HB := sh_b (w := w) hb; (try clear hb); (try clear hb2); (try clear hk); (try clear hi)) | ((with_reducible refine gate_dst (N := 77) rfl ?_); refine Kd.R_lit k52 _ 52 ?hg (N := 77) ?hd (xs := ([(⟨9, 0, 0, 0⟩ : S52)] : List (S52))) (inner := [.int .i64 9, .int .i64 0, .int .i64 0, .int .i64 0]) (ok := fun _ => True) (okp := fun _ => True) ?hr ?hp (fun _ hk => hk) trivial (Below.refl _ _) (Nat.le_refl _) (by simp) ?_; (case hd => rfl); (case hg => rfl); (case hr => first | (go_simp; done) | (go_simp; rfl)); (case hp => exact (Reps.c4 (show Kd.M k52 _ _ _ (⟨9, 0, 0, 0⟩ : S52) [.int .i64 9, .int .i64 0, .int .i64 0, .int .i64 0] from (k52_mkM _ _ _ (⟨9, 0, 0, 0⟩ : S52) )) (Reps.none _ _))); intro v539 w42 ho43 hb hg_ hnew_; clear hg_ hnew_; (first | rw [← Ny538.out] at ho43 | (simp only [Int.reduceToNat] at ho43; rw [← Ny538.out] at ho43)); have HO540 := Aside0.mk (Kd.R_lower ho43 (below_size b_now)); replace HO490 := Aside0.mk (Kd.R_below (by (with_reducible repeat (first | apply Kd.R_alloc | apply Kd.R_drewN | apply Kd.R_drew)); exact HO490.out) hb); replace HO500 := Aside0.mk (Kd.R_below (by (with_reducible repeat (first | apply Kd.R_alloc | apply Kd.R_drewN | apply Kd.R_drew)); exact HO500.out) hb); replace HO510 := Aside0.mk (Kd.R_below (by (with_reducible repeat (first | apply Kd.R_alloc | apply Kd.R_drewN | apply Kd.R_drew)); exact HO510.out) hb); replace HO520 := Aside0.mk (Kd.R_below (by (with_reducible repeat (first | apply Kd.R_alloc | apply Kd.R_drewN | apply Kd.R_drew)); exact HO520.out) hb); replace HO535 := Aside0.mk (Kd.R_below (by (with_reducible repeat (first | apply Kd.R_alloc | apply Kd.R_drewN | apply Kd.R_drew)); exact HO535.out) hb); replace BK487 := sh_k BK487 hb; replace HB := sh_b (w := w) hb; clear hb ho43; obtain ⟨Ao44, co44, eo44⟩ := Kd.R_slice HO540.out; subst eo44) | ((with_reducible refine gate_callee (f := 11) rfl ?_); refine sh_call (some 80) Tryd.func11 #[.agg #[.slice Ao44 y538.length co44, .slice Ao40 y533.length co40]] ?_; (with_reducible refine (shape_Check.calls _ _ y538 _ _ y533 t541 t542 _ ?side1 ?side2 ?side3 ?side4 ?side5 A11.out).mono ?_); (case side1 => repeat (first | exact (Kd.R_reads' HO540.out).2.2 | (with_reducible refine Kd.C_alloc ?_ _) | (with_reducible refine Kd.C_drewN ?_ _) | (with_reducible refine Kd.C_drew ?_))); (case side2 => exact (Kd.R_reads' HO540.out).2.1); (case side3 => repeat (first | exact (Kd.R_reads' HO535.out).2.2 | (with_reducible refine Kd.C_alloc ?_ _) | (with_reducible refine Kd.C_drewN ?_ _) | (with_reducible refine Kd.C_drew ?_))); (case side4 => exact (Kd.R_reads' HO535.out).2.1); (case side5 => repeat (first | exact (Kd.C_below HRG0.out HB.out) | (with_reducible refine Kd.C_alloc ?_ _) | (with_reducible refine Kd.C_drewN ?_ _) | (with_reducible refine Kd.C_drew ?_))); rintro e w45 ⟨rfl, hb⟩; refine ⟨_, rfl, ?_⟩; replace HO490 := Aside0.mk (Kd.R_below (by (with_reducible repeat (first | apply Kd.R_alloc | apply Kd.R_drewN | apply Kd.R_drew)); exact HO490.out) hb); replace HO500 := Aside0.mk (Kd.R_below (by (with_reducible repeat (first | apply Kd.R_alloc | apply Kd.R_drewN | apply Kd.R_drew)); exact HO500.out) hb); replace HO510 := Aside0.mk (Kd.R_below (by (with_reducible repeat (first | apply Kd.R_alloc | apply Kd.R_drewN | apply Kd.R_drew)); exact HO510.out) hb); replace HO520 := Aside0.mk (Kd.R_below (by (with_reducible repeat (first | apply Kd.R_alloc | apply Kd.R_drewN | apply Kd.R_drew)); exact HO520.out) hb); replace HO535 := Aside0.mk (Kd.R_below (by (with_reducible repeat (first | apply Kd.R_alloc | apply Kd.R_drewN | apply Kd.R_drew)); exact HO535.out) hb); replace HO540 := Aside0.mk (Kd.R_below (by (with_reducible repeat (first | apply Kd.R_alloc | apply Kd.R_drewN | apply Kd.R_drew)); exact HO540.out) hb); replace BK487 := sh_k BK487 hb; replace HB := sh_b (w := w) hb; (try clear hb); (try clear hb2); (try clear hk); (try clear hi)) | ((with_reducible refine gate_dst (N := 85) rfl ?_); refine Kd.R_lit k52 _ 52 ?hg (N := 85) ?hd (xs := ([(⟨1, 4, 8, 1⟩ : S52)] : List (S52))) (inner := [.int .i64 1, .int .i64 4, .int .i64 8, .int .i64 1]) (ok := fun _ => True) (okp := fun _ => True) ?hr ?hp (fun _ hk => hk) trivial (Below.refl _ _) (Nat.le_refl _) (by simp) ?_; (case hd => rfl); (case hg => rfl); (case hr => first | (go_simp; done) | (go_simp; rfl)); (case hp => exact (Reps.c4 (show Kd.M k52 _ _ _ (⟨1, 4, 8, 1⟩ : S52) [.int .i64 1, .int .i64 4, .int .i64 8, .int .i64 1] from (k52_mkM _ _ _ (⟨1, 4, 8, 1⟩ : S52) )) (Reps.none _ _))); intro v544 w46 ho47 hb hg_ hnew_; clear hg_ hnew_; (first | rw [← Ny543.out] at ho47 | (simp only [Int.reduceToNat] at ho47; rw [← Ny543.out] at ho47)); have HO545 := Aside0.mk (Kd.R_lower (Kd.R_new' ho47 (Kd.R_lt (by (with_reducible repeat (first | apply Kd.R_alloc | apply Kd.R_drewN | apply Kd.R_drew)); exact HO540.out))) (below_size b_now)); replace HO490 := Aside0.mk (Kd.R_below (by (with_reducible repeat (first | apply Kd.R_alloc | apply Kd.R_drewN | apply Kd.R_drew)); exact HO490.out) hb); replace HO500 := Aside0.mk (Kd.R_below (by (with_reducible repeat (first | apply Kd.R_alloc | apply Kd.R_drewN | apply Kd.R_drew)); exact HO500.out) hb); replace HO510 := Aside0.mk (Kd.R_below (by (with_reducible repeat (first | apply Kd.R_alloc | apply Kd.R_drewN | apply Kd.R_drew)); exact HO510.out) hb); replace HO520 := Aside0.mk (Kd.R_below (by (with_reducible repeat (first | apply Kd.R_alloc | apply Kd.R_drewN | apply Kd.R_drew)); exact HO520.out) hb); replace HO535 := Aside0.mk (Kd.R_below (by (with_reducible repeat (first | apply Kd.R_alloc | apply Kd.R_drewN | apply Kd.R_drew)); exact HO535.out) hb); replace HO540 := Aside0.mk (Kd.R_elder' (by (with_reducible repeat (first | apply Kd.R_alloc | apply Kd.R_drewN | apply Kd.R_drew)); exact HO540.out) (Kd.R_base ho47) hb); replace BK487 := sh_k BK487 hb; replace HB := sh_b (w := w) hb; clear hb ho47; obtain ⟨Ao48, co48, eo48⟩ := Kd.R_slice HO545.out; subst eo48) | ((with_reducible refine gate_callee (f := 11) rfl ?_); refine sh_call (some 88) Tryd.func11 #[.agg #[.slice Ao48 y543.length co48, .slice Ao40 y533.length co40]] ?_; (with_reducible refine (shape_Check.calls _ _ y543 _ _ y533 t546 t547 _ ?side1 ?side2 ?side3 ?side4 ?side5 A12.out).mono ?_); (case side1 => repeat (first | exact (Kd.R_reads' HO545.out).2.2 | (with_reducible refine Kd.C_alloc ?_ _) | (with_reducible refine Kd.C_drewN ?_ _) | (with_reducible refine Kd.C_drew ?_))); (case side2 => exact (Kd.R_reads' HO545.out).2.1); (case side3 => repeat (first | exact (Kd.R_reads' HO535.out).2.2 | (with_reducible refine Kd.C_alloc ?_ _) | (with_reducible refine Kd.C_drewN ?_ _) | (with_reducible refine Kd.C_drew ?_))); (case side4 => exact (Kd.R_reads' HO535.out).2.1); (case side5 => repeat (first | exact (Kd.C_below HRG0.out HB.out) | (with_reducible refine Kd.C_alloc ?_ _) | (with_reducible refine Kd.C_drewN ?_ _) | (with_reducible refine Kd.C_drew ?_))); rintro e w49 ⟨rfl, hb⟩; refine ⟨_, rfl, ?_⟩; replace HO490 := Aside0.mk (Kd.R_below (by (with_reducible repeat (first | apply Kd.R_alloc | apply Kd.R_drewN | apply Kd.R_drew)); exact HO490.out) hb); replace HO500 := Aside0.mk (Kd.R_below (by (with_reducible repeat (first | apply Kd.R_alloc | apply Kd.R_drewN | apply Kd.R_drew)); exact HO500.out) hb); replace HO510 := Aside0.mk (Kd.R_below (by (with_reducible repeat (first | apply Kd.R_alloc | apply Kd.R_drewN | apply Kd.R_drew)); exact HO510.out) hb); replace HO520 := Aside0.mk (Kd.R_below (by (with_reducible repeat (first | apply Kd.R_alloc | apply Kd.R_drewN | apply Kd.R_drew)); exact HO520.out) hb); replace HO535 := Aside0.mk (Kd.R_below (by (with_reducible repeat (first | apply Kd.R_alloc | apply Kd.R_drewN | apply Kd.R_drew)); exact HO535.out) hb); replace HO540 := Aside0.mk (Kd.R_below (by (with_reducible repeat (first | apply Kd.R_alloc | apply Kd.R_drewN | apply Kd.R_drew)); exact HO540.out) hb); replace HO545 := Aside0.mk (Kd.R_below (by (with_reducible repeat (first | apply Kd.R_alloc | apply Kd.R_drewN | apply Kd.R_drew)); exact HO545.out) hb); replace BK487 := sh_k BK487 hb; replace HB := sh_b (w := w) hb; (try clear hb); (try clear hb2); (try clear hk); (try clear hi)))
 go_loopg [17, 91] k (fun kq v17 v91 w' => ∃ (x17_1 : List (S40)) (x91_1 : Int), v91 = .int .i64 x91_1 ∧ Aside0 (stockadelaw04_ShapeKnown.l0 kq t492 t502 t511 t512 t522 t536 t537 t542 t547 x17_1 x91_1 24 0 0 0 0 = some r) ∧ Aside0 (kq ≤ k) ∧ Aside0 (Kd.R k40 40 w' w.heap.size (fun k_ => k_ ≠ gb487) v17 x17_1) ∧ Aside0 (w'.heap[gb487]? = some (.cells #[.int .u8 24, .int .u8 0, .int .u8 0, .int .i16 0, .int .i32 0] 40 (0, 0))) ∧ Aside0 (Below w.heap.size w w'))
 case atStart => exact ⟨(([] : List (S40))), (0), eq_now, H', ⟨Nat.le_refl _⟩, ⟨by first | exact Kd.R_nil _ _ _ _ _ | exact Kd.N_nil _ _ _ _ _ | exact Kd.V_nil _ _ _ _ _ | exact Kd.Q_nil _ _ _ _ _ | exact Kd.S_nil _ _ _ _ _⟩, ⟨bk_now⟩, ⟨b_now⟩⟩
 case round =>
  clear H'
  try clear c1
  try clear c2
  try clear p2
  try clear c4
  try clear c5
  try clear c9
  try clear c11
  try clear c24
  try clear hcz14
  obtain ⟨x17_1, x91_1, rfl, HA, HK1, HO_17, BK487, HB⟩ := hrel
  cases gk with
  | zero => exact absurd HA.out (by simp [stockadelaw04_ShapeKnown.l0])
  | succ k1 =>
   have H := HA.out
   clear HA
   simp only [stockadelaw04_ShapeKnown.l0] at H
   by_cases c50 : x91_1 < 512
   ·rw [if_pos c50] at H
    have c50b0 : decide (x91_1 < 512) = true := decide_eq_true c50
    clear c50
    replace H := Option.bind_eq_some_iff.mp H; obtain ⟨⟨t548, t549, t550, t551, t552⟩, A510, H⟩ := H; try dsimp only at H
    have A51 := Aside0.mk A510
    clear A510
    by_cases c52 : x17_1.length < 11728124029610
    ·rw [if_pos c52] at H
     have LMc52 := Aside0.mk c52
     clear c52
     obtain ⟨y553, hy553⟩ : ∃ y_ : List (S40), y_ = (x17_1 ++ [(⟨t548, t549, t550, t551, t552⟩ : S40)]) := ⟨_, rfl⟩
     replace H : (stockadelaw04_ShapeKnown.l0 k1 t492 t502 t511 t512 t522 t536 t537 t542 t547 y553 (wrap64 (x91_1 + 1)) 24 0 0 0 0) = some r := by first | (rw [hy553]; with_reducible exact H) | (have H2_ := (Option.bind_some _ _).symm.trans H; rw [hy553]; with_reducible exact H2_) | (have H2_ := (Option.bind_some _ _).symm.trans H; with_reducible exact H2_) | with_reducible exact H | (rw [hy553]; exact H) | exact H
     have Ny553 := Aside0.mk hy553
     clear hy553
     have H' := Aside0.mk H
     clear H
     go_wp2_with (first | ((with_reducible refine gate_callee (f := 24) rfl ?_); refine sh_call (some 94) Tryd.func24 #[] ?_; (with_reducible refine (stockadelaw04_exit.calls  t548 t549 t550 t551 t552 _ A51.out).mono ?_); rintro e w53 ⟨rfl, hb⟩; refine ⟨_, rfl, ?_⟩; replace HO_17 := Aside0.mk (Kd.R_below (by (with_reducible repeat (first | apply Kd.R_alloc | apply Kd.R_drewN | apply Kd.R_drew)); exact HO_17.out) hb); replace BK487 := sh_k BK487 hb; replace HB := sh_b (w := w) hb; (try clear hb); (try clear hb2); (try clear hk); (try clear hi)) | ((with_reducible refine gate_builtin (b := .append) (xs := #[.tmp 93, .tmp 95]) rfl ?_); at_builtin; refine Kd.R_append k40 (w0 := w) w.heap.size rfl (.tmp 93) (.tmp 95) 23 40 (.agg #[(.int .u8 0), (.int .u8 0), (.int .u8 0), (.int .i16 0), (.int .i32 0)]) 12 rfl Tryd.underlying23 info40 rfl (by decide) (by omega) u17 x17_1 (⟨t548, t549, t550, t551, t552⟩ : S40) [.int .u8 t548, .int .u8 t549, .int .u8 t550, .int .i16 t551, .int .i32 t552] (fun k_ => k_ ≠ gb487) (fun _ => False) rfl rfl ?aP (fun _ hk => hk.elim) ?aF ?aO ?aB ?aS ?aL ?_; (case aP => exact k40_mkM _ _ _ (⟨t548, t549, t550, t551, t552⟩ : S40)); (case aB => exact b_now); (case aF => exact (fun k_ hk => Kd.freshB (g := gb487) (o := .cells #[.int .u8 24, .int .u8 0, .int .u8 0, .int .i16 0, .int .i32 0] 40 (0, 0)) bk_now k_ hk)); (case aO => exact (by (with_reducible repeat (first | apply Kd.R_alloc | apply Kd.R_drewN | apply Kd.R_drew)); exact HO_17.out)); (case aS => exact (below_size b_now)); (case aL => have := LMc52.out; omega); intro v554 w54 ho hb hg hat; rw [← Ny553.out] at ho; have n0_ := Aside0.mk (blk_grown (g := gb487) (o := .cells #[.int .u8 24, .int .u8 0, .int .u8 0, .int .i16 0, .int .i32 0] 40 (0, 0)) bk_now hg (Kd.R_away HO_17.out (fun _ hk => hk))); have n1_ := Aside0.mk (hb); have n2_ := Aside0.mk (ho); clear BK487; clear HB; clear HO_17; have BK487 := n0_; have HB := n1_; have HO555 := n2_; clear n0_ n1_ n2_; clear ho hb hg hat))
     go_roundg k1
     case measure => have := HK1.out; omega
     case rel => exact ⟨(y553), (wrap64 (x91_1 + 1)), eq_now, H', ⟨by have := HK1.out; omega⟩, ⟨by (with_reducible repeat (first | apply Kd.R_alloc | apply Kd.R_drewN | apply Kd.R_drew)); exact HO555.out⟩, ⟨bk_now⟩, ⟨b_now⟩⟩
    ·rw [if_neg c52] at H
     exact absurd H (by simp)
   ·rw [if_neg c50] at H
    have c50b0 : decide (x91_1 < 512) = false := decide_eq_false c50
    clear c50
    replace H := Option.bind_eq_some_iff.mp H; obtain ⟨⟨t556, t557⟩, A550, H⟩ := H; try dsimp only at H
    have A55 := Aside0.mk A550
    clear A550
    replace H := Option.bind_eq_some_iff.mp H; obtain ⟨⟨t558, t559, t560, t561, t562⟩, A560, H⟩ := H; try dsimp only at H
    have A56 := Aside0.mk A560
    clear A560
    by_cases c57 : x17_1.length < 11728124029610
    ·rw [if_pos c57] at H
     have LMc57 := Aside0.mk c57
     clear c57
     obtain ⟨y563, hy563⟩ : ∃ y_ : List (S40), y_ = (x17_1 ++ [(⟨t558, t559, t560, t561, t562⟩ : S40)]) := ⟨_, rfl⟩
     replace H : ((shape_Check.f ([] : List (S52)) y563).bind fun bt566 => ((stockadelaw04_exit.f).bind fun bt568 => ((shape_Check.f ([] : List (S52)) (([(⟨bt568.1, bt568.2.1, bt568.2.2.1, bt568.2.2.2.1, bt568.2.2.2.2⟩ : S40), (⟨21, 0, 0, (-2), 0⟩ : S40)] : List (S40)))).bind fun bt576 => ((stockadelaw04_exit.f).bind fun bt578 => ((shape_Check.f ([] : List (S52)) (([(⟨bt578.1, bt578.2.1, bt578.2.2.1, bt578.2.2.2.1, bt578.2.2.2.2⟩ : S40), (⟨24, 0, 0, 0, 0⟩ : S40), (⟨0, 0, 0, 0, 0⟩ : S40)] : List (S40)))).bind fun bt586 => (if bt576.1 = 1 then (if bt576.2 = 25 then (if bt586.1 = 1 then (stockadelaw04_ShapeKnown.j1 k1 t492 t502 t511 t512 t522 t536 t537 t542 t547 t557 bt566.2 (bt586.2 != 25)) else (stockadelaw04_ShapeKnown.j1 k1 t492 t502 t511 t512 t522 t536 t537 t542 t547 t557 bt566.2 true)) else (stockadelaw04_ShapeKnown.j1 k1 t492 t502 t511 t512 t522 t536 t537 t542 t547 t557 bt566.2 true)) else (stockadelaw04_ShapeKnown.j1 k1 t492 t502 t511 t512 t522 t536 t537 t542 t547 t557 bt566.2 true))))))) = some r := by first | (rw [hy563]; with_reducible exact H) | (have H2_ := (Option.bind_some _ _).symm.trans H; rw [hy563]; with_reducible exact H2_) | (have H2_ := (Option.bind_some _ _).symm.trans H; with_reducible exact H2_) | with_reducible exact H | (rw [hy563]; exact H) | exact H
     have Ny563 := Aside0.mk hy563
     clear hy563
     replace H := Option.bind_eq_some_iff.mp H; obtain ⟨⟨t566, t567⟩, A580, H⟩ := H; try dsimp only at H
     have A58 := Aside0.mk A580
     clear A580
     replace H := Option.bind_eq_some_iff.mp H; obtain ⟨⟨t568, t569, t570, t571, t572⟩, A590, H⟩ := H; try dsimp only at H
     have A59 := Aside0.mk A590
     clear A590
     obtain ⟨y573, hy573⟩ : ∃ y_ : List (S40), y_ = (([(⟨t568, t569, t570, t571, t572⟩ : S40), (⟨21, 0, 0, (-2), 0⟩ : S40)] : List (S40))) := ⟨_, rfl⟩
     replace H : ((shape_Check.f ([] : List (S52)) y573).bind fun bt576 => ((stockadelaw04_exit.f).bind fun bt578 => ((shape_Check.f ([] : List (S52)) (([(⟨bt578.1, bt578.2.1, bt578.2.2.1, bt578.2.2.2.1, bt578.2.2.2.2⟩ : S40), (⟨24, 0, 0, 0, 0⟩ : S40), (⟨0, 0, 0, 0, 0⟩ : S40)] : List (S40)))).bind fun bt586 => (if bt576.1 = 1 then (if bt576.2 = 25 then (if bt586.1 = 1 then (stockadelaw04_ShapeKnown.j1 k1 t492 t502 t511 t512 t522 t536 t537 t542 t547 t557 t567 (bt586.2 != 25)) else (stockadelaw04_ShapeKnown.j1 k1 t492 t502 t511 t512 t522 t536 t537 t542 t547 t557 t567 true)) else (stockadelaw04_ShapeKnown.j1 k1 t492 t502 t511 t512 t522 t536 t537 t542 t547 t557 t567 true)) else (stockadelaw04_ShapeKnown.j1 k1 t492 t502 t511 t512 t522 t536 t537 t542 t547 t557 t567 true))))) = some r := by first | (rw [hy573]; with_reducible exact H) | (have H2_ := (Option.bind_some _ _).symm.trans H; rw [hy573]; with_reducible exact H2_) | (have H2_ := (Option.bind_some _ _).symm.trans H; with_reducible exact H2_) | with_reducible exact H | (rw [hy573]; exact H) | exact H
     have Ny573 := Aside0.mk hy573
     clear hy573
     replace H := Option.bind_eq_some_iff.mp H; obtain ⟨⟨t576, t577⟩, A600, H⟩ := H; try dsimp only at H
     have A60 := Aside0.mk A600
     clear A600
     replace H := Option.bind_eq_some_iff.mp H; obtain ⟨⟨t578, t579, t580, t581, t582⟩, A610, H⟩ := H; try dsimp only at H
     have A61 := Aside0.mk A610
     clear A610
     obtain ⟨y583, hy583⟩ : ∃ y_ : List (S40), y_ = (([(⟨t578, t579, t580, t581, t582⟩ : S40), (⟨24, 0, 0, 0, 0⟩ : S40), (⟨0, 0, 0, 0, 0⟩ : S40)] : List (S40))) := ⟨_, rfl⟩
     replace H : ((shape_Check.f ([] : List (S52)) y583).bind fun bt586 => (if t576 = 1 then (if t577 = 25 then (if bt586.1 = 1 then (stockadelaw04_ShapeKnown.j1 k1 t492 t502 t511 t512 t522 t536 t537 t542 t547 t557 t567 (bt586.2 != 25)) else (stockadelaw04_ShapeKnown.j1 k1 t492 t502 t511 t512 t522 t536 t537 t542 t547 t557 t567 true)) else (stockadelaw04_ShapeKnown.j1 k1 t492 t502 t511 t512 t522 t536 t537 t542 t547 t557 t567 true)) else (stockadelaw04_ShapeKnown.j1 k1 t492 t502 t511 t512 t522 t536 t537 t542 t547 t557 t567 true))) = some r := by first | (rw [hy583]; with_reducible exact H) | (have H2_ := (Option.bind_some _ _).symm.trans H; rw [hy583]; with_reducible exact H2_) | (have H2_ := (Option.bind_some _ _).symm.trans H; with_reducible exact H2_) | with_reducible exact H | (rw [hy583]; exact H) | exact H
     have Ny583 := Aside0.mk hy583
     clear hy583
     replace H := Option.bind_eq_some_iff.mp H; obtain ⟨⟨t586, t587⟩, A620, H⟩ := H; try dsimp only at H
     have A62 := Aside0.mk A620
     clear A620
     have HC63 := Aside0.mk H
     clear H
     obtain ⟨Ao64, co64, eo64⟩ := Kd.R_slice HO_17.out
     subst eo64
     try go_wp2_with (first | ((with_reducible refine gate_callee (f := 11) rfl ?_); refine sh_call (some 101) Tryd.func11 #[.agg #[.slice none 0 0, .slice Ao64 x17_1.length co64]] ?_; (refine (shape_Check.calls _ _ ([] : List (S52)) _ _ x17_1 t556 t557 _ ?side1 ?side2 ?side3 ?side4 ?side5 A55.out).mono ?_); (case side1 => exact Kd.C_nil _ _); (case side2 => exact Nat.le_refl _); (case side3 => repeat (first | exact (Kd.R_reads' HO_17.out).2.2 | (with_reducible refine Kd.C_alloc ?_ _) | (with_reducible refine Kd.C_drewN ?_ _) | (with_reducible refine Kd.C_drew ?_))); (case side4 => exact (Kd.R_reads' HO_17.out).2.1); (case side5 => repeat (first | exact (Kd.C_below HRG0.out HB.out) | (with_reducible refine Kd.C_alloc ?_ _) | (with_reducible refine Kd.C_drewN ?_ _) | (with_reducible refine Kd.C_drew ?_))); rintro e w65 ⟨rfl, hb⟩; refine ⟨_, rfl, ?_⟩; replace HO_17 := Aside0.mk (Kd.R_below (by (with_reducible repeat (first | apply Kd.R_alloc | apply Kd.R_drewN | apply Kd.R_drew)); exact HO_17.out) hb); replace BK487 := sh_k BK487 hb; replace HB := sh_b (w := w) hb; (try clear hb); (try clear hb2); (try clear hk); (try clear hi)) | ((with_reducible refine gate_callee (f := 24) rfl ?_); refine sh_call (some 106) Tryd.func24 #[] ?_; (with_reducible refine (stockadelaw04_exit.calls  t558 t559 t560 t561 t562 _ A56.out).mono ?_); rintro e w66 ⟨rfl, hb⟩; refine ⟨_, rfl, ?_⟩; replace HO_17 := Aside0.mk (Kd.R_below (by (with_reducible repeat (first | apply Kd.R_alloc | apply Kd.R_drewN | apply Kd.R_drew)); exact HO_17.out) hb); replace BK487 := sh_k BK487 hb; replace HB := sh_b (w := w) hb; (try clear hb); (try clear hb2); (try clear hk); (try clear hi)) | ((with_reducible refine gate_builtin (b := .append) (xs := #[.tmp 105, .tmp 107]) rfl ?_); at_builtin; refine Kd.R_append k40 (w0 := w) w.heap.size rfl (.tmp 105) (.tmp 107) 23 40 (.agg #[(.int .u8 0), (.int .u8 0), (.int .u8 0), (.int .i16 0), (.int .i32 0)]) 12 rfl Tryd.underlying23 info40 rfl (by decide) (by omega) (.slice Ao64 x17_1.length co64) x17_1 (⟨t558, t559, t560, t561, t562⟩ : S40) [.int .u8 t558, .int .u8 t559, .int .u8 t560, .int .i16 t561, .int .i32 t562] (fun k_ => k_ ≠ gb487) (fun _ => False) rfl rfl ?aP (fun _ hk => hk.elim) ?aF ?aO ?aB ?aS ?aL ?_; (case aP => exact k40_mkM _ _ _ (⟨t558, t559, t560, t561, t562⟩ : S40)); (case aB => exact b_now); (case aF => exact (fun k_ hk => Kd.freshB (g := gb487) (o := .cells #[.int .u8 24, .int .u8 0, .int .u8 0, .int .i16 0, .int .i32 0] 40 (0, 0)) bk_now k_ hk)); (case aO => exact (by (with_reducible repeat (first | apply Kd.R_alloc | apply Kd.R_drewN | apply Kd.R_drew)); exact HO_17.out)); (case aS => exact (below_size b_now)); (case aL => have := LMc57.out; omega); intro v564 w67 ho hb hg hat; rw [← Ny563.out] at ho; have n0_ := Aside0.mk (blk_grown (g := gb487) (o := .cells #[.int .u8 24, .int .u8 0, .int .u8 0, .int .i16 0, .int .i32 0] 40 (0, 0)) bk_now hg (Kd.R_away HO_17.out (fun _ hk => hk))); have n1_ := Aside0.mk (hb); have n2_ := Aside0.mk (ho); clear BK487; clear HB; clear HO_17; have BK487 := n0_; have HB := n1_; have HO565 := n2_; clear n0_ n1_ n2_; clear ho hb hg hat; obtain ⟨Ao68, co68, eo68⟩ := Kd.R_slice HO565.out; subst eo68) | ((with_reducible refine gate_callee (f := 11) rfl ?_); refine sh_call (some 110) Tryd.func11 #[.agg #[.slice none 0 0, .slice Ao68 y563.length co68]] ?_; (refine (shape_Check.calls _ _ ([] : List (S52)) _ _ y563 t566 t567 _ ?side1 ?side2 ?side3 ?side4 ?side5 A58.out).mono ?_); (case side1 => exact Kd.C_nil _ _); (case side2 => exact Nat.le_refl _); (case side3 => repeat (first | exact (Kd.R_reads' HO565.out).2.2 | (with_reducible refine Kd.C_alloc ?_ _) | (with_reducible refine Kd.C_drewN ?_ _) | (with_reducible refine Kd.C_drew ?_))); (case side4 => exact (Kd.R_reads' HO565.out).2.1); (case side5 => repeat (first | exact (Kd.C_below HRG0.out HB.out) | (with_reducible refine Kd.C_alloc ?_ _) | (with_reducible refine Kd.C_drewN ?_ _) | (with_reducible refine Kd.C_drew ?_))); rintro e w69 ⟨rfl, hb⟩; refine ⟨_, rfl, ?_⟩; replace HO565 := Aside0.mk (Kd.R_below (by (with_reducible repeat (first | apply Kd.R_alloc | apply Kd.R_drewN | apply Kd.R_drew)); exact HO565.out) hb); replace BK487 := sh_k BK487 hb; replace HB := sh_b (w := w) hb; (try clear hb); (try clear hb2); (try clear hk); (try clear hi)) | ((with_reducible refine gate_callee (f := 24) rfl ?_); refine sh_call (some 114) Tryd.func24 #[] ?_; (with_reducible refine (stockadelaw04_exit.calls  t568 t569 t570 t571 t572 _ A59.out).mono ?_); rintro e w70 ⟨rfl, hb⟩; refine ⟨_, rfl, ?_⟩; replace HO565 := Aside0.mk (Kd.R_below (by (with_reducible repeat (first | apply Kd.R_alloc | apply Kd.R_drewN | apply Kd.R_drew)); exact HO565.out) hb); replace BK487 := sh_k BK487 hb; replace HB := sh_b (w := w) hb; (try clear hb); (try clear hb2); (try clear hk); (try clear hi)) | ((with_reducible refine gate_dst (N := 116) rfl ?_); refine Kd.R_lit k40 _ 40 ?hg (N := 116) ?hd (xs := ([(⟨t568, t569, t570, t571, t572⟩ : S40), (⟨21, 0, 0, (-2), 0⟩ : S40)] : List (S40))) (inner := [.int .u8 t568, .int .u8 t569, .int .u8 t570, .int .i16 t571, .int .i32 t572, .int .u8 21, .int .u8 0, .int .u8 0, .int .i16 (-2), .int .i32 0]) (ok := fun _ => True) (okp := fun _ => True) ?hr ?hp (fun _ hk => hk) trivial (Below.refl _ _) (Nat.le_refl _) (by simp) ?_; (case hd => rfl); (case hg => rfl); (case hr => first | (go_simp; done) | (go_simp; rfl)); (case hp => exact (Reps.c5 (show Kd.M k40 _ _ _ (⟨t568, t569, t570, t571, t572⟩ : S40) [.int .u8 t568, .int .u8 t569, .int .u8 t570, .int .i16 t571, .int .i32 t572] from (k40_mkM _ _ _ (⟨t568, t569, t570, t571, t572⟩ : S40) )) (Reps.c5 (show Kd.M k40 _ _ _ (⟨21, 0, 0, (-2), 0⟩ : S40) [.int .u8 21, .int .u8 0, .int .u8 0, .int .i16 (-2), .int .i32 0] from (k40_mkM _ _ _ (⟨21, 0, 0, (-2), 0⟩ : S40) )) (Reps.none _ _)))); intro v574 w71 ho72 hb hg_ hnew_; clear hg_ hnew_; (first | rw [← Ny573.out] at ho72 | (simp only [Int.reduceToNat] at ho72; rw [← Ny573.out] at ho72)); have HO575 := Aside0.mk (Kd.R_lower (Kd.R_newB (Kd.R_new' ho72 (Kd.R_lt (by (with_reducible repeat (first | apply Kd.R_alloc | apply Kd.R_drewN | apply Kd.R_drew)); exact HO565.out))) (g := gb487) (o := .cells #[.int .u8 24, .int .u8 0, .int .u8 0, .int .i16 0, .int .i32 0] 40 (0, 0)) bk_now) (below_size b_now)); replace HO565 := Aside0.mk (Kd.R_elder' (by (with_reducible repeat (first | apply Kd.R_alloc | apply Kd.R_drewN | apply Kd.R_drew)); exact HO565.out) (Kd.R_base ho72) hb); replace BK487 := sh_k BK487 hb; replace HB := sh_b (w := w) hb; clear hb ho72; obtain ⟨Ao73, co73, eo73⟩ := Kd.R_slice HO575.out; subst eo73) | ((with_reducible refine gate_callee (f := 11) rfl ?_); refine sh_call (some 118) Tryd.func11 #[.agg #[.slice none 0 0, .slice Ao73 y573.length co73]] ?_; (refine (shape_Check.calls _ _ ([] : List (S52)) _ _ y573 t576 t577 _ ?side1 ?side2 ?side3 ?side4 ?side5 A60.out).mono ?_); (case side1 => exact Kd.C_nil _ _); (case side2 => exact Nat.le_refl _); (case side3 => repeat (first | exact (Kd.R_reads' HO575.out).2.2 | (with_reducible refine Kd.C_alloc ?_ _) | (with_reducible refine Kd.C_drewN ?_ _) | (with_reducible refine Kd.C_drew ?_))); (case side4 => exact (Kd.R_reads' HO575.out).2.1); (case side5 => repeat (first | exact (Kd.C_below HRG0.out HB.out) | (with_reducible refine Kd.C_alloc ?_ _) | (with_reducible refine Kd.C_drewN ?_ _) | (with_reducible refine Kd.C_drew ?_))); rintro e w74 ⟨rfl, hb⟩; refine ⟨_, rfl, ?_⟩; replace HO565 := Aside0.mk (Kd.R_below (by (with_reducible repeat (first | apply Kd.R_alloc | apply Kd.R_drewN | apply Kd.R_drew)); exact HO565.out) hb); replace HO575 := Aside0.mk (Kd.R_below (by (with_reducible repeat (first | apply Kd.R_alloc | apply Kd.R_drewN | apply Kd.R_drew)); exact HO575.out) hb); replace BK487 := sh_k BK487 hb; replace HB := sh_b (w := w) hb; (try clear hb); (try clear hb2); (try clear hk); (try clear hi)))
     have n0_ := Aside0.mk (Kd.R_drew HO565.out)
     have n1_ := Aside0.mk (Kd.R_drew HO575.out)
     have n2_ := Aside0.mk (blk_drew BK487.out)
     have n3_ := Aside0.mk (below_drew1 HB.out)
     clear HO565
     clear HO575
     clear BK487
     clear HB
     have HO565 := n0_
     have HO575 := n1_
     have BK487 := n2_
     have HB := n3_
     clear n0_ n1_ n2_ n3_
     refine start_ (n := 11) (S := fun w' => w'.cell? ⟨gb487, 0, none⟩ = some (.int .u8 24) ∧ w'.cell? ⟨gb487, 1, none⟩ = some (.int .u8 0) ∧ w'.cell? ⟨gb487, 2, none⟩ = some (.int .u8 0) ∧ w'.cell? ⟨gb487, 3, none⟩ = some (.int .i16 0) ∧ w'.cell? ⟨gb487, 4, none⟩ = some (.int .i32 0)) (ds := []) #[false, false, false, false, false, false, false, false, false, false, false] (by kernel_rfl) rfl rfl ⟨(blk_cell BK487.out 0).trans rfl, (blk_cell BK487.out 1).trans rfl, (blk_cell BK487.out 2).trans rfl, (blk_cell BK487.out 3).trans rfl, (blk_cell BK487.out 4).trans rfl⟩ (fun hHeld => ?_); refine with_tabW stockadelaw04_ShapeKnown.tab18 stockadelaw04_ShapeKnown.bits18 (fun HT_ HW_ => ?_)
     generalize w74.drew = w75 at HO565 HO575 BK487 HB hHeld ⊢
     refine pure_ (i := 2) (N := some 124) (v := ?_) (a' := ?_) #[false, false, true, false, false, false, false, false, false, false, false] rfl rfl (any_of HT_.out (by kernel_rfl)) (fun _ _ _ h => h) (Or.inl ⟨by rfl, ?_⟩) ?_ ?_
     rotate_left
     ·intro w'
      go_simp
      with_reducible rfl
     rotate_left
     ·simp only [Act.put, List.setIfInBounds_toArray, List.set_cons_zero, List.set_cons_succ, i64_w, i32_w]
      rfl
     refine take_ (i := 1) (N := some 123) (v := ?_) (a' := ?_) #[false, true, true, false, false, false, false, false, false, false, false] rfl rfl (take_ofW HT_.out HW_.out (by kernel_rfl)) (fun _ _ _ h => h) (Or.inl ⟨by rfl, ?_⟩) hHeld ?_ ?_
     rotate_left
     ·rintro w' ⟨s0, s1, s2, s3, s4⟩
      go_simp
      with_reducible rfl
     rotate_left
     ·simp only [Act.put, List.setIfInBounds_toArray, List.set_cons_zero, List.set_cons_succ, i64_w, i32_w]
      rfl
     refine one_ (i := 0) (N := some 122) #[true, true, true, false, false, false, false, false, false, false, false] rfl rfl (one_of HT_.out (by kernel_rfl)) (by decide) (fun K hK => ?_)
     refine goes_ Tryd.func24 (by kernel_rfl) rfl #[] (by rfl) rfl rfl (by (try simp only [List.map_toArray, List.map_cons, List.map_nil]); first | done | rfl | (simp only [List.length_drop, List.length_take]; rfl)) ?_
     with_reducible refine (stockadelaw04_exit.calls  t578 t579 t580 t581 t582 _ A61.out).mono ?_
     rintro e w76 ⟨rfl, hb⟩
     refine ⟨_, rfl, ?_⟩
     have n0_ := Aside0.mk (Kd.R_below (by (with_reducible repeat (first | apply Kd.R_alloc | apply Kd.R_drewN | apply Kd.R_drew)); exact HO565.out) hb)
     have n1_ := Aside0.mk (Kd.R_below (by (with_reducible repeat (first | apply Kd.R_alloc | apply Kd.R_drewN | apply Kd.R_drew)); exact HO575.out) hb)
     have n2_ := Aside0.mk (blk_below (g := gb487) (o := .cells #[.int .u8 24, .int .u8 0, .int .u8 0, .int .i16 0, .int .i32 0] 40 (0, 0)) bk_now hb)
     have n3_ := Aside0.mk (below_step b_now hb)
     clear HO565
     clear HO575
     clear BK487
     clear HB
     have HO565 := n0_
     have HO575 := n1_
     have BK487 := n2_
     have HB := n3_
     clear n0_ n1_ n2_ n3_
     (try clear hb)
     (try clear hb2)
     (try clear hk)
     (try clear hi)
     refine hK.out _ _ ⟨(blk_cell BK487.out 0).trans rfl, (blk_cell BK487.out 1).trans rfl, (blk_cell BK487.out 2).trans rfl, (blk_cell BK487.out 3).trans rfl, (blk_cell BK487.out 4).trans rfl⟩ (fun hHeld => ?_)
     clear hK K
     refine norm_ (a' := ?_) ?_ ?_
     rotate_left
     ·show Act.put _ (some 122) _ = _
      simp only [Act.put, List.setIfInBounds_toArray, List.set_cons_zero, List.set_cons_succ, i64_w, i32_w]
      rfl
     refine one_ (i := 3) (N := some 125) #[true, true, true, true, false, false, false, false, false, false, false] rfl rfl (one_of HT_.out (by kernel_rfl)) (by decide) (fun K hK => ?_)
     refine Kd.R_lit_step k40 _ 40 ?hg (N := 125) ?hd (xs := ([(⟨t578, t579, t580, t581, t582⟩ : S40), (⟨24, 0, 0, 0, 0⟩ : S40), (⟨0, 0, 0, 0, 0⟩ : S40)] : List (S40))) (inner := [.int .u8 t578, .int .u8 t579, .int .u8 t580, .int .i16 t581, .int .i32 t582, .int .u8 24, .int .u8 0, .int .u8 0, .int .i16 0, .int .i32 0, .int .u8 0, .int .u8 0, .int .u8 0, .int .i16 0, .int .i32 0]) (ok := fun _ => True) (okp := fun _ => True) ?hr ?hp (fun _ hk => hk) trivial (Below.refl _ _) (Nat.le_refl _) (by simp) ?_; (case hd => rfl); (case hg => rfl); (case hr => first | (go_simp; done) | (go_simp; rfl)); (case hp => exact (Reps.c5 (show Kd.M k40 _ _ _ (⟨t578, t579, t580, t581, t582⟩ : S40) [.int .u8 t578, .int .u8 t579, .int .u8 t580, .int .i16 t581, .int .i32 t582] from (k40_mkM _ _ _ (⟨t578, t579, t580, t581, t582⟩ : S40) )) (Reps.c5 (show Kd.M k40 _ _ _ (⟨24, 0, 0, 0, 0⟩ : S40) [.int .u8 24, .int .u8 0, .int .u8 0, .int .i16 0, .int .i32 0] from (k40_mkM _ _ _ (⟨24, 0, 0, 0, 0⟩ : S40) )) (Reps.c5 (show Kd.M k40 _ _ _ (⟨0, 0, 0, 0, 0⟩ : S40) [.int .u8 0, .int .u8 0, .int .u8 0, .int .i16 0, .int .i32 0] from (k40_mkM _ _ _ (⟨0, 0, 0, 0, 0⟩ : S40) )) (Reps.none _ _)))))
     intro v584 w77 ho78 hb hg_ hnew_
     clear hg_ hnew_
     (first | rw [← Ny583.out] at ho78 | (simp only [Int.reduceToNat] at ho78; rw [← Ny583.out] at ho78))
     have n0_ := Aside0.mk (Kd.R_elder' (by (with_reducible repeat (first | apply Kd.R_alloc | apply Kd.R_drewN | apply Kd.R_drew)); exact HO565.out) (Kd.R_base ho78) hb)
     have n1_ := Aside0.mk (Kd.R_elder' (by (with_reducible repeat (first | apply Kd.R_alloc | apply Kd.R_drewN | apply Kd.R_drew)); exact HO575.out) (Kd.R_base ho78) hb)
     have n2_ := Aside0.mk (Kd.R_lower (Kd.R_newB (Kd.R_new' (Kd.R_new' ho78 (Kd.R_lt (by (with_reducible repeat (first | apply Kd.R_alloc | apply Kd.R_drewN | apply Kd.R_drew)); exact HO565.out))) (Kd.R_lt (by (with_reducible repeat (first | apply Kd.R_alloc | apply Kd.R_drewN | apply Kd.R_drew)); exact HO575.out))) (g := gb487) (o := .cells #[.int .u8 24, .int .u8 0, .int .u8 0, .int .i16 0, .int .i32 0] 40 (0, 0)) bk_now) (below_size b_now))
     have n3_ := Aside0.mk (blk_below (g := gb487) (o := .cells #[.int .u8 24, .int .u8 0, .int .u8 0, .int .i16 0, .int .i32 0] 40 (0, 0)) bk_now hb)
     have n4_ := Aside0.mk (below_step b_now hb)
     clear HO565
     clear HO575
     clear BK487
     clear HB
     have HO565 := n0_
     have HO575 := n1_
     have HO585 := n2_
     have BK487 := n3_
     have HB := n4_
     clear n0_ n1_ n2_ n3_ n4_
     clear hb ho78
     obtain ⟨Ao79, co79, eo79⟩ := Kd.R_slice HO585.out
     (first | subst eo79 | (injection eo79 with f1_ f2_ f3_; have f4_ := f1_.symm; have f5_ := f3_.symm; clear f1_ f2_ f3_; subst f4_; subst f5_))
     refine hK.out _ _ ⟨(blk_cell BK487.out 0).trans rfl, (blk_cell BK487.out 1).trans rfl, (blk_cell BK487.out 2).trans rfl, (blk_cell BK487.out 3).trans rfl, (blk_cell BK487.out 4).trans rfl⟩ (fun hHeld => ?_)
     clear hK K
     refine norm_ (a' := ?_) ?_ ?_
     rotate_left
     ·show Act.put _ (some 125) _ = _
      simp only [Act.put, List.setIfInBounds_toArray, List.set_cons_zero, List.set_cons_succ, i64_w, i32_w]
      rfl
     refine pure_ (i := 4) (N := some 126) (v := ?_) (a' := ?_) #[true, true, true, true, true, false, false, false, false, false, false] rfl rfl (any_of HT_.out (by kernel_rfl)) (fun _ _ _ h => h) (Or.inl ⟨by rfl, ?_⟩) ?_ ?_
     rotate_left
     ·intro w'
      go_simp
      with_reducible rfl
     rotate_left
     ·simp only [Act.put, List.setIfInBounds_toArray, List.set_cons_zero, List.set_cons_succ, i64_w, i32_w]
      rfl
     refine one_ (i := 5) (N := some 127) #[true, true, true, true, true, true, false, false, false, false, false] rfl rfl (one_of HT_.out (by kernel_rfl)) (by decide) (fun K hK => ?_)
     refine goes_ Tryd.func11 (by kernel_rfl) rfl #[.agg #[.slice none 0 0, .slice Ao79 y583.length co79]] (by rfl) rfl rfl (by (try simp only [List.map_toArray, List.map_cons, List.map_nil]); first | done | rfl | (simp only [List.length_drop, List.length_take]; rfl)) ?_
     refine (shape_Check.calls _ _ ([] : List (S52)) _ _ y583 t586 t587 _ ?side1 ?side2 ?side3 ?side4 ?side5 A62.out).mono ?_
     (case side1 => exact Kd.C_nil _ _)
     (case side2 => exact Nat.le_refl _)
     (case side3 => repeat (first | exact (Kd.R_reads' HO585.out).2.2 | (with_reducible refine Kd.C_alloc ?_ _) | (with_reducible refine Kd.C_drewN ?_ _) | (with_reducible refine Kd.C_drew ?_)))
     (case side4 => exact (Kd.R_reads' HO585.out).2.1)
     (case side5 => repeat (first | exact (Kd.C_below HRG0.out HB.out) | (with_reducible refine Kd.C_alloc ?_ _) | (with_reducible refine Kd.C_drewN ?_ _) | (with_reducible refine Kd.C_drew ?_)))
     rintro e w80 ⟨rfl, hb⟩
     refine ⟨_, rfl, ?_⟩
     have n0_ := Aside0.mk (Kd.R_below (by (with_reducible repeat (first | apply Kd.R_alloc | apply Kd.R_drewN | apply Kd.R_drew)); exact HO565.out) hb)
     have n1_ := Aside0.mk (Kd.R_below (by (with_reducible repeat (first | apply Kd.R_alloc | apply Kd.R_drewN | apply Kd.R_drew)); exact HO575.out) hb)
     have n2_ := Aside0.mk (Kd.R_below (by (with_reducible repeat (first | apply Kd.R_alloc | apply Kd.R_drewN | apply Kd.R_drew)); exact HO585.out) hb)
     have n3_ := Aside0.mk (blk_below (g := gb487) (o := .cells #[.int .u8 24, .int .u8 0, .int .u8 0, .int .i16 0, .int .i32 0] 40 (0, 0)) bk_now hb)
     have n4_ := Aside0.mk (below_step b_now hb)
     clear HO565
     clear HO575
     clear HO585
     clear BK487
     clear HB
     have HO565 := n0_
     have HO575 := n1_
     have HO585 := n2_
     have BK487 := n3_
     have HB := n4_
     clear n0_ n1_ n2_ n3_ n4_
     (try clear hb)
     (try clear hb2)
     (try clear hk)
     (try clear hi)
     refine hK.out _ _ ⟨(blk_cell BK487.out 0).trans rfl, (blk_cell BK487.out 1).trans rfl, (blk_cell BK487.out 2).trans rfl, (blk_cell BK487.out 3).trans rfl, (blk_cell BK487.out 4).trans rfl⟩ (fun hHeld => ?_)
     clear hK K
     refine norm_ (a' := ?_) ?_ ?_
     rotate_left
     ·show Act.put _ (some 127) _ = _
      simp only [Act.put, List.setIfInBounds_toArray, List.set_cons_zero, List.set_cons_succ, i64_w, i32_w]
      rfl
     refine pure_ (i := 6) (N := some 121) (v := ?_) (a' := ?_) #[true, true, true, true, true, true, true, false, false, false, false] rfl rfl (any_of HT_.out (by kernel_rfl)) (fun _ _ _ h => h) (Or.inl ⟨by rfl, ?_⟩) ?_ ?_
     rotate_left
     ·intro w'
      go_simp
      with_reducible rfl
     rotate_left
     ·simp only [Act.put, List.setIfInBounds_toArray, List.set_cons_zero, List.set_cons_succ, i64_w, i32_w]
      rfl
     refine pure_ (i := 7) (N := some 128) (v := ?_) (a' := ?_) #[true, true, true, true, true, true, true, true, false, false, false] rfl rfl (any_of HT_.out (by kernel_rfl)) (fun _ _ _ h => h) (Or.inl ⟨by rfl, ?_⟩) ?_ ?_
     rotate_left
     ·intro w'
      go_simp
      with_reducible rfl
     rotate_left
     ·simp only [Act.put, List.setIfInBounds_toArray, List.set_cons_zero, List.set_cons_succ, i64_w, i32_w]
      rfl
     refine pure_ (i := 8) (N := some 129) (v := ?_) (a' := ?_) #[true, true, true, true, true, true, true, true, true, false, false] rfl rfl (any_of HT_.out (by kernel_rfl)) (fun _ _ _ h => h) (Or.inl ⟨by rfl, ?_⟩) ?_ ?_
     rotate_left
     ·intro w'
      go_simp
      with_reducible rfl
     rotate_left
     ·simp only [Act.put, List.setIfInBounds_toArray, List.set_cons_zero, List.set_cons_succ, i64_w, i32_w]
      rfl
     refine pure_ (i := 9) (N := some 24) (v := ?_) (a' := ?_) #[true, true, true, true, true, true, true, true, true, true, false] rfl rfl (any_of HT_.out (by kernel_rfl)) (fun _ _ _ h => h) (Or.inl ⟨by rfl, ?_⟩) ?_ ?_
     rotate_left
     ·intro w'
      go_simp
      with_reducible rfl
     rotate_left
     ·simp only [Act.put, List.setIfInBounds_toArray, List.set_cons_zero, List.set_cons_succ, i64_w, i32_w]
      rfl
     refine pure_ (i := 10) (N := some 25) (v := ?_) (a' := ?_) #[true, true, true, true, true, true, true, true, true, true, true] rfl rfl (any_of HT_.out (by kernel_rfl)) (fun _ _ _ h => h) (Or.inl ⟨by rfl, ?_⟩) ?_ ?_
     rotate_left
     ·intro w'
      go_simp
      with_reducible rfl
     rotate_left
     ·simp only [Act.put, List.setIfInBounds_toArray, List.set_cons_zero, List.set_cons_succ, i64_w, i32_w]
      rfl
     refine done_ (done_of HT_.out (by kernel_rfl)) ?_
     go_upto_region 19 with (fail)
     go_cut [143] (fun v143 wc => ∃ (kq : Nat) (x143_62 : Bool), v143 = .bool x143_62 ∧ Aside0 (stockadelaw04_ShapeKnown.j1 kq t492 t502 t511 t512 t522 t536 t537 t542 t547 t557 t567 x143_62 = some r) ∧ Aside0 (kq ≤ k1) ∧ Aside0 (wc.heap[gb487]? = some (.cells #[.int .u8 24, .int .u8 0, .int .u8 0, .int .i16 0, .int .i32 0] 40 (0, 0))) ∧ Aside0 (Below w.heap.size w wc))
     case first =>
      have H := HC63.out
      clear HC63
      by_cases c81 : t576 = 1
      ·rw [if_pos c81] at H
       have c81b0 : (t576 == 1) = true := beq_iff_eq.mpr c81
       have c81b1 : (t576 != 1) = false := bne_eq_false_iff_eq.mpr c81
       clear c81
       (first | rw [c81b0] | (simp only [i64_w, i32_w]; rw [c81b0]) | skip)
       by_cases c82 : t577 = 25
       ·rw [if_pos c82] at H
        have c82b0 : (t577 == 25) = true := beq_iff_eq.mpr c82
        have c82b1 : (t577 != 25) = false := bne_eq_false_iff_eq.mpr c82
        clear c82
        by_cases c83 : t586 = 1
        ·rw [if_pos c83] at H
         have c83b0 : (t586 == 1) = true := beq_iff_eq.mpr c83
         have c83b1 : (t586 != 1) = false := bne_eq_false_iff_eq.mpr c83
         clear c83
         have H' := Aside0.mk H
         clear H
         go_wp2
         go_meet
         case rel => exact ⟨_, ((t587 != 25)), eq_now, H', ⟨by have := HK1.out; first | omega | exact Nat.le_refl _⟩, ⟨bk_now⟩, ⟨b_now⟩⟩
        ·rw [if_neg c83] at H
         have c83b0 : (t586 == 1) = false := beq_eq_false_iff_ne.mpr c83
         have c83b1 : (t586 != 1) = true := bne_iff_ne.mpr c83
         have H' := Aside0.mk H
         clear H
         go_wp2
         go_meet
         case rel => exact ⟨_, (true), eq_now, H', ⟨by have := HK1.out; first | omega | exact Nat.le_refl _⟩, ⟨bk_now⟩, ⟨b_now⟩⟩
       ·rw [if_neg c82] at H
        have c82b0 : (t577 == 25) = false := beq_eq_false_iff_ne.mpr c82
        have c82b1 : (t577 != 25) = true := bne_iff_ne.mpr c82
        have H' := Aside0.mk H
        clear H
        go_wp2
        go_meet
        case rel => exact ⟨_, (true), eq_now, H', ⟨by have := HK1.out; first | omega | exact Nat.le_refl _⟩, ⟨bk_now⟩, ⟨b_now⟩⟩
      ·rw [if_neg c81] at H
       have c81b0 : (t576 == 1) = false := beq_eq_false_iff_ne.mpr c81
       have c81b1 : (t576 != 1) = true := bne_iff_ne.mpr c81
       (first | rw [c81b0] | (simp only [i64_w, i32_w]; rw [c81b0]) | skip)
       have H' := Aside0.mk H
       clear H
       go_wp2
       go_meet
       case rel => exact ⟨_, (true), eq_now, H', ⟨by have := HK1.out; first | omega | exact Nat.le_refl _⟩, ⟨bk_now⟩, ⟨b_now⟩⟩
     case rest =>
      clear HC63
      try clear c1
      try clear c2
      try clear p2
      try clear c4
      try clear c5
      try clear p6
      try clear c8
      try clear c9
      try clear c11
      try clear c24
      try clear c50
      try clear c50b0
      try clear c52
      try clear c57
      try clear p64
      try clear c81
      try clear c81b0
      try clear c81b1
      try clear c82
      try clear c82b0
      try clear c82b1
      try clear c83
      try clear c83b0
      try clear c83b1
      try clear hcz14
      try clear p2
      obtain ⟨kq, x143_62, rfl, HA, HJ62, BK487, HB⟩ := hcut
      cases kq with
      | zero => exact absurd HA.out (by simp [stockadelaw04_ShapeKnown.j1])
      | succ kj62 =>
       have H := HA.out
       clear HA
       simp only [stockadelaw04_ShapeKnown.j1] at H
       by_cases c84 : x143_62 = true
       ·subst c84
        replace H := sh_t H
        obtain rfl := Option.some.inj H
        exact absurd HRT.out (by simp)
       ·replace c84 := Bool.eq_false_iff.mpr c84
        subst c84
        replace H := sh_f H
        obtain ⟨y588, hy588⟩ : ∃ y_ : List (S52), y_ = (([(⟨1, 8, 8, 1⟩ : S52), (⟨2, 4, 8, 0⟩ : S52), (⟨2, 4, 8, 65⟩ : S52), (⟨3, 17, 8, 1⟩ : S52), (⟨3, 4, 65, 1⟩ : S52), (⟨3, 0, 1, 1⟩ : S52), (⟨3, 1, 0, 1⟩ : S52)] : List (S52))) := ⟨_, rfl⟩
        replace H : (stockadelaw04_ShapeKnown.l1 kj62 t492 t502 t511 t512 t522 t536 t537 t542 t547 t557 t567 y588 (y588.length : Int) 0) = some r := by first | (rw [hy588]; with_reducible exact H) | (have H2_ := (Option.bind_some _ _).symm.trans H; rw [hy588]; with_reducible exact H2_) | (have H2_ := (Option.bind_some _ _).symm.trans H; with_reducible exact H2_) | with_reducible exact H | (rw [hy588]; exact H) | exact H
        have Ny588 := Aside0.mk hy588
        clear hy588
        have H' := Aside0.mk H
        clear H
        go_wp2_with (first | ((with_reducible refine gate_dst (N := 151) rfl ?_); refine Kd.R_lit k52 _ 52 ?hg (N := 151) ?hd (xs := ([(⟨1, 8, 8, 1⟩ : S52), (⟨2, 4, 8, 0⟩ : S52), (⟨2, 4, 8, 65⟩ : S52), (⟨3, 17, 8, 1⟩ : S52), (⟨3, 4, 65, 1⟩ : S52), (⟨3, 0, 1, 1⟩ : S52), (⟨3, 1, 0, 1⟩ : S52)] : List (S52))) (inner := [.int .i64 1, .int .i64 8, .int .i64 8, .int .i64 1, .int .i64 2, .int .i64 4, .int .i64 8, .int .i64 0, .int .i64 2, .int .i64 4, .int .i64 8, .int .i64 65, .int .i64 3, .int .i64 17, .int .i64 8, .int .i64 1, .int .i64 3, .int .i64 4, .int .i64 65, .int .i64 1, .int .i64 3, .int .i64 0, .int .i64 1, .int .i64 1, .int .i64 3, .int .i64 1, .int .i64 0, .int .i64 1]) (ok := fun _ => True) (okp := fun _ => True) ?hr ?hp (fun _ hk => hk) trivial (Below.refl _ _) (Nat.le_refl _) (by simp) ?_; (case hd => rfl); (case hg => rfl); (case hr => first | (go_simp; done) | (go_simp; rfl)); (case hp => exact (Reps.c4 (show Kd.M k52 _ _ _ (⟨1, 8, 8, 1⟩ : S52) [.int .i64 1, .int .i64 8, .int .i64 8, .int .i64 1] from (k52_mkM _ _ _ (⟨1, 8, 8, 1⟩ : S52) )) (Reps.c4 (show Kd.M k52 _ _ _ (⟨2, 4, 8, 0⟩ : S52) [.int .i64 2, .int .i64 4, .int .i64 8, .int .i64 0] from (k52_mkM _ _ _ (⟨2, 4, 8, 0⟩ : S52) )) (Reps.c4 (show Kd.M k52 _ _ _ (⟨2, 4, 8, 65⟩ : S52) [.int .i64 2, .int .i64 4, .int .i64 8, .int .i64 65] from (k52_mkM _ _ _ (⟨2, 4, 8, 65⟩ : S52) )) (Reps.c4 (show Kd.M k52 _ _ _ (⟨3, 17, 8, 1⟩ : S52) [.int .i64 3, .int .i64 17, .int .i64 8, .int .i64 1] from (k52_mkM _ _ _ (⟨3, 17, 8, 1⟩ : S52) )) (Reps.c4 (show Kd.M k52 _ _ _ (⟨3, 4, 65, 1⟩ : S52) [.int .i64 3, .int .i64 4, .int .i64 65, .int .i64 1] from (k52_mkM _ _ _ (⟨3, 4, 65, 1⟩ : S52) )) (Reps.c4 (show Kd.M k52 _ _ _ (⟨3, 0, 1, 1⟩ : S52) [.int .i64 3, .int .i64 0, .int .i64 1, .int .i64 1] from (k52_mkM _ _ _ (⟨3, 0, 1, 1⟩ : S52) )) (Reps.c4 (show Kd.M k52 _ _ _ (⟨3, 1, 0, 1⟩ : S52) [.int .i64 3, .int .i64 1, .int .i64 0, .int .i64 1] from (k52_mkM _ _ _ (⟨3, 1, 0, 1⟩ : S52) )) (Reps.none _ _))))))))); intro v589 w85 ho86 hb hg_ hnew_; clear hg_ hnew_; (first | rw [← Ny588.out] at ho86 | (simp only [Int.reduceToNat] at ho86; rw [← Ny588.out] at ho86)); have HO590 := Aside0.mk (Kd.R_lower ho86 (below_size b_now)); replace BK487 := sh_k BK487 hb; replace HB := sh_b (w := w) hb; clear hb ho86; obtain ⟨Ao87, co87, eo87⟩ := Kd.R_slice HO590.out; subst eo87))
        go_loopg [153] kj62 (fun kq v153 w' => ∃ (x153_3 : Int), v153 = .int .i64 x153_3 ∧ Aside0 (stockadelaw04_ShapeKnown.l1 kq t492 t502 t511 t512 t522 t536 t537 t542 t547 t557 t567 y588 (y588.length : Int) x153_3 = some r) ∧ Aside0 (kq ≤ kj62) ∧ Aside0 (Kd.R k52 52 w' w.heap.size (fun _ => True) (.slice Ao87 y588.length co87) y588) ∧ Aside0 (w'.heap[gb487]? = some (.cells #[.int .u8 24, .int .u8 0, .int .u8 0, .int .i16 0, .int .i32 0] 40 (0, 0))) ∧ Aside0 (Below w.heap.size w w'))
        case atStart => exact ⟨(0), eq_now, H', ⟨Nat.le_refl _⟩, ⟨by (with_reducible repeat (first | apply Kd.R_alloc | apply Kd.R_drewN | apply Kd.R_drew)); exact HO590.out⟩, ⟨bk_now⟩, ⟨b_now⟩⟩
        case round =>
         clear H'
         try clear c1
         try clear c2
         try clear p2
         try clear c4
         try clear c5
         try clear p6
         try clear c8
         try clear c9
         try clear c11
         try clear c24
         try clear c50
         try clear c50b0
         try clear c52
         try clear c57
         try clear p64
         try clear c81
         try clear c81b0
         try clear c81b1
         try clear c82
         try clear c82b0
         try clear c82b1
         try clear c83
         try clear c83b0
         try clear c83b1
         try clear c84
         try clear hcz14
         try clear p2
         try clear p6
         try clear p64
         obtain ⟨x153_3, rfl, HA, HK3, HO_151, BK487, HB⟩ := hrel
         cases gk with
         | zero => exact absurd HA.out (by simp [stockadelaw04_ShapeKnown.l1])
         | succ k3 =>
          have H := HA.out
          clear HA
          simp only [stockadelaw04_ShapeKnown.l1] at H
          by_cases c88 : x153_3 < (y588.length : Int)
          ·rw [if_pos c88] at H
           have c88b0 : decide (x153_3 < (y588.length : Int)) = true := decide_eq_true c88
           clear c88
           by_cases c89 : 0 ≤ x153_3
           ·rw [if_pos c89] at H
            have c89b0 : decide (0 ≤ x153_3) = true := decide_eq_true c89
            clear c89
            by_cases c90 : x153_3 < (y588.length : Int)
            ·rw [if_pos c90] at H
             have c90b0 : decide (x153_3 < (y588.length : Int)) = true := decide_eq_true c90
             clear c90
             obtain ⟨y594, hy594⟩ : ∃ y_ : List (S52), y_ = (([(⟨(rd_T52 y588 x153_3).f0, (rd_T52 y588 x153_3).f1, (rd_T52 y588 x153_3).f2, (rd_T52 y588 x153_3).f3⟩ : S52)] : List (S52))) := ⟨_, rfl⟩
             replace H : ((stockadelaw04_exit.f).bind fun bt597 => ((stockadelaw04_right.f y594 (([(⟨bt597.1, bt597.2.1, bt597.2.2.1, bt597.2.2.2.1, bt597.2.2.2.2⟩ : S40)] : List (S40)))).bind fun t605 => (if t605 = true then (some false) else (stockadelaw04_ShapeKnown.l1 k3 t492 t502 t511 t512 t522 t536 t537 t542 t547 t557 t567 y588 (y588.length : Int) (wrap64 (x153_3 + 1)))))) = some r := by first | (rw [hy594]; with_reducible exact H) | (have H2_ := (Option.bind_some _ _).symm.trans H; rw [hy594]; with_reducible exact H2_) | (have H2_ := (Option.bind_some _ _).symm.trans H; with_reducible exact H2_) | with_reducible exact H | (rw [hy594]; exact H) | exact H
             have Ny594 := Aside0.mk hy594
             clear hy594
             replace H := Option.bind_eq_some_iff.mp H; obtain ⟨⟨t597, t598, t599, t600, t601⟩, A910, H⟩ := H; try dsimp only at H
             have A91 := Aside0.mk A910
             clear A910
             obtain ⟨y602, hy602⟩ : ∃ y_ : List (S40), y_ = (([(⟨t597, t598, t599, t600, t601⟩ : S40)] : List (S40))) := ⟨_, rfl⟩
             replace H : ((stockadelaw04_right.f y594 y602).bind fun t605 => (if t605 = true then (some false) else (stockadelaw04_ShapeKnown.l1 k3 t492 t502 t511 t512 t522 t536 t537 t542 t547 t557 t567 y588 (y588.length : Int) (wrap64 (x153_3 + 1))))) = some r := by first | (rw [hy602]; with_reducible exact H) | (have H2_ := (Option.bind_some _ _).symm.trans H; rw [hy602]; with_reducible exact H2_) | (have H2_ := (Option.bind_some _ _).symm.trans H; with_reducible exact H2_) | with_reducible exact H | (rw [hy602]; exact H) | exact H
             have Ny602 := Aside0.mk hy602
             clear hy602
             replace H := Option.bind_eq_some_iff.mp H; obtain ⟨t605, A920, H⟩ := H; try dsimp only at H
             have A92 := Aside0.mk A920
             clear A920
             by_cases c93 : t605 = true
             ·subst c93
              replace H := sh_t H
              obtain rfl := Option.some.inj H
              exact absurd HRT.out (by simp)
             ·replace c93 := Bool.eq_false_iff.mpr c93
              subst c93
              replace H := sh_f H
              have H' := Aside0.mk H
              clear H
              have p592 : 0 ≤ (x153_3 : Int) := of_decide_eq_true (by first | (with_reducible assumption) | assumption)
              have q592 : x153_3 < (y588.length : Int) := of_decide_eq_true (by first | (with_reducible assumption) | assumption)
              obtain ⟨ad592, e592, hx592_0, hx592_1, hx592_2, hx592_3⟩ := at_T52 (Kd.R_reads' HO_151.out).2.2 x153_3 p592 q592
              cases e592
              replace p592 := eq_true p592
              replace q592 := eq_true q592
              try go_wp2_with (first | ((with_reducible refine gate_dst (N := 27) rfl ?_); refine sh_box 27 #[.int .i64 0, .int .i64 0, .int .i64 0, .int .i64 0] 52 ?_; intro gb593 hg w94 hbox hb; have GE593 := sh_z (w := w) hg; have NB487_593 := sh_n BK487 hg; have NB593_487 := sh_s NB487_593; replace HO_151 := Aside0.mk (Kd.R_below (Kd.R_elderB (by (with_reducible repeat (first | apply Kd.R_alloc | apply Kd.R_drewN | apply Kd.R_drew)); exact HO_151.out) gb593 (Nat.le_of_eq hg.symm)) hb); replace BK487 := sh_k BK487 hb; replace HB := sh_b (w := w) hb; have BK593 := Aside0.mk (hbox); clear hb hbox hg; have hnb95 := NB593_487.out; have hnc95 := NB487_593.out; have hcz96 := blk_all4 BK593.out))
              have n0_ : Aside0 (Kd.R k52 52 ((((w94.setCell ⟨gb593, 0, none⟩ (.int .i64 ((rd_T52 y588 x153_3).f0))).setCell ⟨gb593, 1, none⟩ (.int .i64 ((rd_T52 y588 x153_3).f1))).setCell ⟨gb593, 2, none⟩ (.int .i64 ((rd_T52 y588 x153_3).f2))).setCell ⟨gb593, 3, none⟩ (.int .i64 ((rd_T52 y588 x153_3).f3))) w.heap.size (fun k_ => k_ ≠ gb593) (.slice (some ad592) y588.length co87) y588) := ⟨by (with_reducible repeat (first | apply Kd.R_alloc | apply Kd.R_drewN | apply Kd.R_drew)); exact Kd.R_mono (Kd.R_far (p := ⟨gb593, 3, none⟩) (Kd.R_far (p := ⟨gb593, 2, none⟩) (Kd.R_far (p := ⟨gb593, 1, none⟩) (Kd.R_far (p := ⟨gb593, 0, none⟩) (Kd.R_mono HO_151.out (fun k_ hk => (⟨hk, hk.2⟩ : _ ∧ k_ ≠ gb593))) (fun _ hk => hk.2) (.int .i64 ((rd_T52 y588 x153_3).f0))) (fun _ hk => hk.2) (.int .i64 ((rd_T52 y588 x153_3).f1))) (fun _ hk => hk.2) (.int .i64 ((rd_T52 y588 x153_3).f2))) (fun _ hk => hk.2) (.int .i64 ((rd_T52 y588 x153_3).f3))) (fun _ hk => hk.1.2)⟩
              have n1_ : Aside0 (((((w94.setCell ⟨gb593, 0, none⟩ (.int .i64 ((rd_T52 y588 x153_3).f0))).setCell ⟨gb593, 1, none⟩ (.int .i64 ((rd_T52 y588 x153_3).f1))).setCell ⟨gb593, 2, none⟩ (.int .i64 ((rd_T52 y588 x153_3).f2))).setCell ⟨gb593, 3, none⟩ (.int .i64 ((rd_T52 y588 x153_3).f3))).heap[gb487]? = some (.cells #[.int .u8 24, .int .u8 0, .int .u8 0, .int .i16 0, .int .i32 0] 40 (0, 0))) := ⟨bk_now⟩
              have n2_ : Aside0 (((((w94.setCell ⟨gb593, 0, none⟩ (.int .i64 ((rd_T52 y588 x153_3).f0))).setCell ⟨gb593, 1, none⟩ (.int .i64 ((rd_T52 y588 x153_3).f1))).setCell ⟨gb593, 2, none⟩ (.int .i64 ((rd_T52 y588 x153_3).f2))).setCell ⟨gb593, 3, none⟩ (.int .i64 ((rd_T52 y588 x153_3).f3))).heap[gb593]? = some (.cells #[.int .i64 ((rd_T52 y588 x153_3).f0), .int .i64 ((rd_T52 y588 x153_3).f1), .int .i64 ((rd_T52 y588 x153_3).f2), .int .i64 ((rd_T52 y588 x153_3).f3)] 52 (0, 0))) := ⟨bk_now⟩
              have n3_ : Aside0 (Below w.heap.size w ((((w94.setCell ⟨gb593, 0, none⟩ (.int .i64 ((rd_T52 y588 x153_3).f0))).setCell ⟨gb593, 1, none⟩ (.int .i64 ((rd_T52 y588 x153_3).f1))).setCell ⟨gb593, 2, none⟩ (.int .i64 ((rd_T52 y588 x153_3).f2))).setCell ⟨gb593, 3, none⟩ (.int .i64 ((rd_T52 y588 x153_3).f3)))) := ⟨b_now⟩
              (try clear HO_151)
              (try clear BK487)
              (try clear BK593)
              (try clear HB)
              generalize ((((w94.setCell ⟨gb593, 0, none⟩ (.int .i64 ((rd_T52 y588 x153_3).f0))).setCell ⟨gb593, 1, none⟩ (.int .i64 ((rd_T52 y588 x153_3).f1))).setCell ⟨gb593, 2, none⟩ (.int .i64 ((rd_T52 y588 x153_3).f2))).setCell ⟨gb593, 3, none⟩ (.int .i64 ((rd_T52 y588 x153_3).f3))) = w97 at n0_ n1_ n2_ n3_ ⊢
              have HO_151 := n0_
              have BK487 := n1_
              have BK593 := n2_
              have HB := n3_
              clear n0_ n1_ n2_ n3_
              have n0_ := Aside0.mk (Kd.R_drew HO_151.out)
              have n1_ := Aside0.mk (blk_drew BK487.out)
              have n2_ := Aside0.mk (blk_drew BK593.out)
              have n3_ := Aside0.mk (below_drew1 HB.out)
              clear HO_151
              clear BK487
              clear BK593
              clear HB
              have HO_151 := n0_
              have BK487 := n1_
              have BK593 := n2_
              have HB := n3_
              clear n0_ n1_ n2_ n3_
              refine start_ (n := 6) (S := fun w' => True) (ds := []) #[false, false, false, false, false, false] (by kernel_rfl) rfl rfl trivial (fun hHeld => ?_); refine with_tabW stockadelaw04_ShapeKnown.tab24 stockadelaw04_ShapeKnown.bits24 (fun HT_ HW_ => ?_)
              generalize w97.drew = w98 at HO_151 BK487 BK593 HB hHeld ⊢
              refine inv_at [0, 1, 2, 3, 4, 5] (fun a0_ b a w' => ∃ (v595 : Value) (v603 : Value) (m4_ : Value), a = putSel a0_ b [(0, 157, .agg #[.int .i64 ((rd_T52 y588 x153_3).f0), .int .i64 ((rd_T52 y588 x153_3).f1), .int .i64 ((rd_T52 y588 x153_3).f2), .int .i64 ((rd_T52 y588 x153_3).f3)]), (1, 158, v595), (2, 159, .agg #[.int .u8 t597, .int .u8 t598, .int .u8 t599, .int .i16 t600, .int .i32 t601]), (3, 160, v603), (4, 161, m4_), (5, 162, .bool false)] ∧ (Kd.R k52 52 w' w.heap.size (fun k_ => k_ ≠ gb593) (.slice (some ad592) y588.length co87) y588) ∧ (w'.heap[gb487]? = some (.cells #[.int .u8 24, .int .u8 0, .int .u8 0, .int .i16 0, .int .i32 0] 40 (0, 0))) ∧ (w'.heap[gb593]? = some (.cells #[.int .i64 ((rd_T52 y588 x153_3).f0), .int .i64 ((rd_T52 y588 x153_3).f1), .int .i64 ((rd_T52 y588 x153_3).f2), .int .i64 ((rd_T52 y588 x153_3).f3)] 52 (0, 0))) ∧ (Below w.heap.size w w') ∧ (b 1 = true → Kd.R k52 52 w' w.heap.size (fun k_ => some k_ ≠ (.slice (some ad592) y588.length co87 : Value).ownBlock ∧ k_ ≠ gb593) v595 y594) ∧ (b 3 = true → Kd.R k40 40 w' w.heap.size (fun k_ => k_ ≠ gb487) v603 y602) ∧ (b 4 = true → (m4_ : Value) = .agg #[v595, v603])) HT_.out HW_.out (by kernel_rfl) (by kernel_rfl) ?_ ?_ ?_
              ·exact ⟨.bool false, .bool false, .bool false, by simp only [putSel, Bool.false_eq_true, if_false], HO_151.out, BK487.out, BK593.out, HB.out, fun h_ => absurd h_ (by decide), fun h_ => absurd h_ (by decide), fun h_ => absurd h_ (by decide)⟩
              ·skip
               clear BK487 BK593 HB HO_151
               refine steps_cons ?_ ?_
               ·rintro b a w' ⟨v595, v603, m4_, ha, Q_HO_151, Q_BK487, Q_BK593, Q_HB, Q_HO596, Q_HO604, Q_X4_⟩ hb_ hon hoff
                refine ⟨_, rfl, fun K hK => ?_⟩
                have e27 : a.tmps[27]? = some (.pointer (some ⟨gb593, 0, none⟩)) := by rw [ha]; exact (putSel_off rfl).trans rfl
                replace ha := Aside0.mk ha
                have HO_151 := Aside0.mk Q_HO_151
                have BK487 := Aside0.mk Q_BK487
                have BK593 := Aside0.mk Q_BK593
                have HB := Aside0.mk Q_HB
                have hc0_ : w'.cell? ⟨gb593, 0, none⟩ = some (.int .i64 ((rd_T52 y588 x153_3).f0)) := (blk_cell BK593.out 0).trans rfl
                have hc1_ : w'.cell? ⟨gb593, 1, none⟩ = some (.int .i64 ((rd_T52 y588 x153_3).f1)) := (blk_cell BK593.out 1).trans rfl
                have hc2_ : w'.cell? ⟨gb593, 2, none⟩ = some (.int .i64 ((rd_T52 y588 x153_3).f2)) := (blk_cell BK593.out 2).trans rfl
                have hc3_ : w'.cell? ⟨gb593, 3, none⟩ = some (.int .i64 ((rd_T52 y588 x153_3).f3)) := (blk_cell BK593.out 3).trans rfl
                refine value_ (w1 := w') (v := .agg #[.int .i64 ((rd_T52 y588 x153_3).f0), .int .i64 ((rd_T52 y588 x153_3).f1), .int .i64 ((rd_T52 y588 x153_3).f2), .int .i64 ((rd_T52 y588 x153_3).f3)]) (by rfl) rfl ?_ ?_
                ·go_simp
                 (try simp only [i64_w])
                 try rfl
                refine hK.out _ _ ⟨v595, v603, m4_, (by rw [ha.out]; exact putSel_upk 0 hb_ rfl rfl rfl), Q_HO_151, Q_BK487, Q_BK593, Q_HB, fun h0_ => absurd ((hoff 1 (by kernel_rfl)).symm.trans h0_) (by decide), Q_HO604, fun h0_ => absurd ((hoff 4 (by kernel_rfl)).symm.trans h0_) (by decide)⟩
               refine steps_cons ?_ ?_
               ·rintro b a w' ⟨v595, v603, m4_, ha, Q_HO_151, Q_BK487, Q_BK593, Q_HB, Q_HO596, Q_HO604, Q_X4_⟩ hb_ hon hoff
                refine ⟨_, rfl, fun K hK => ?_⟩
                have e157 : a.tmps[157]? = some (.agg #[.int .i64 ((rd_T52 y588 x153_3).f0), .int .i64 ((rd_T52 y588 x153_3).f1), .int .i64 ((rd_T52 y588 x153_3).f2), .int .i64 ((rd_T52 y588 x153_3).f3)]) := by rw [ha]; exact putSel_on (e := (0, 157, .agg #[.int .i64 ((rd_T52 y588 x153_3).f0), .int .i64 ((rd_T52 y588 x153_3).f1), .int .i64 ((rd_T52 y588 x153_3).f2), .int .i64 ((rd_T52 y588 x153_3).f3)])) 0 rfl rfl (hon 0 (by kernel_rfl)) rfl
                replace ha := Aside0.mk ha
                have HO_151 := Aside0.mk Q_HO_151
                have BK487 := Aside0.mk Q_BK487
                have BK593 := Aside0.mk Q_BK593
                have HB := Aside0.mk Q_HB
                refine Kd.R_lit_step k52 _ 52 ?hg (N := 158) ?hd (xs := ([(⟨(rd_T52 y588 x153_3).f0, (rd_T52 y588 x153_3).f1, (rd_T52 y588 x153_3).f2, (rd_T52 y588 x153_3).f3⟩ : S52)] : List (S52))) (inner := [.int .i64 ((rd_T52 y588 x153_3).f0), .int .i64 ((rd_T52 y588 x153_3).f1), .int .i64 ((rd_T52 y588 x153_3).f2), .int .i64 ((rd_T52 y588 x153_3).f3)]) (ok := fun _ => True) (okp := fun _ => True) ?hr ?hp (fun _ hk => hk) trivial (Below.refl _ _) (Nat.le_refl _) (by simp) ?_; (case hd => rfl); (case hg => rfl); (case hr => first | (go_simp; done) | (go_simp; rfl)); (case hp => exact (Reps.c4 (show Kd.M k52 _ _ _ (⟨(rd_T52 y588 x153_3).f0, (rd_T52 y588 x153_3).f1, (rd_T52 y588 x153_3).f2, (rd_T52 y588 x153_3).f3⟩ : S52) [.int .i64 ((rd_T52 y588 x153_3).f0), .int .i64 ((rd_T52 y588 x153_3).f1), .int .i64 ((rd_T52 y588 x153_3).f2), .int .i64 ((rd_T52 y588 x153_3).f3)] from (k52_mkM _ _ _ (⟨(rd_T52 y588 x153_3).f0, (rd_T52 y588 x153_3).f1, (rd_T52 y588 x153_3).f2, (rd_T52 y588 x153_3).f3⟩ : S52) )) (Reps.none _ _)))
                intro v595 w99 ho100 hb hg_ hnew_
                clear hg_ hnew_
                (first | rw [← Ny594.out] at ho100 | (simp only [Int.reduceToNat] at ho100; rw [← Ny594.out] at ho100))
                have n0_ := Aside0.mk (Kd.R_elder' (by (with_reducible repeat (first | apply Kd.R_alloc | apply Kd.R_drewN | apply Kd.R_drew)); exact HO_151.out) (Kd.R_base ho100) hb)
                have n1_ := Aside0.mk (Kd.R_lower (Kd.R_newB (Kd.R_new' ho100 (Kd.R_lt (by (with_reducible repeat (first | apply Kd.R_alloc | apply Kd.R_drewN | apply Kd.R_drew)); exact HO_151.out))) (g := gb593) (o := .cells #[.int .i64 ((rd_T52 y588 x153_3).f0), .int .i64 ((rd_T52 y588 x153_3).f1), .int .i64 ((rd_T52 y588 x153_3).f2), .int .i64 ((rd_T52 y588 x153_3).f3)] 52 (0, 0)) bk_now) (below_size b_now))
                have n2_ := Aside0.mk (blk_below (g := gb487) (o := .cells #[.int .u8 24, .int .u8 0, .int .u8 0, .int .i16 0, .int .i32 0] 40 (0, 0)) bk_now hb)
                have n3_ := Aside0.mk (blk_below (g := gb593) (o := .cells #[.int .i64 ((rd_T52 y588 x153_3).f0), .int .i64 ((rd_T52 y588 x153_3).f1), .int .i64 ((rd_T52 y588 x153_3).f2), .int .i64 ((rd_T52 y588 x153_3).f3)] 52 (0, 0)) bk_now hb)
                have n4_ := Aside0.mk (below_step b_now hb)
                have z_HO604 := fun (h0_ : b 3 = true) => (show Kd.R k40 40 w99 w.heap.size (fun k_ => k_ ≠ gb487) v603 y602 from by first | exact (Kd.R_below (by (with_reducible repeat (first | apply Kd.R_alloc | apply Kd.R_drewN | apply Kd.R_drew)); exact (Q_HO604 h0_)) hb) | exact Kd.R_mono (Kd.R_below (by (with_reducible repeat (first | apply Kd.R_alloc | apply Kd.R_drewN | apply Kd.R_drew)); exact (Q_HO604 h0_)) hb) (fun _ h_ => by first | trivial | exact h_ | exact h_.1))
                clear HO_151
                clear BK487
                clear BK593
                clear HB
                have HO_151 := n0_
                have HO596 := n1_
                have BK487 := n2_
                have BK593 := n3_
                have HB := n4_
                clear n0_ n1_ n2_ n3_ n4_
                clear hb ho100
                refine hK.out _ _ ⟨v595, v603, m4_, (by rw [ha.out]; exact putSel_upk 1 hb_ rfl rfl rfl), (by (with_reducible repeat (first | apply Kd.R_alloc | apply Kd.R_drewN | apply Kd.R_drew)); exact Kd.R_mono HO_151.out (fun _ hk => by first | exact ⟨hk.2, hk.1⟩ | exact hk | exact hk.1 | exact hk.2)), bk_now, bk_now, b_now, fun _ => (by (with_reducible repeat (first | apply Kd.R_alloc | apply Kd.R_drewN | apply Kd.R_drew)); exact Kd.R_mono HO596.out (fun _ hk => ⟨hk.1.2, hk.2⟩)), z_HO604, fun h0_ => absurd ((hoff 4 (by kernel_rfl)).symm.trans h0_) (by decide)⟩
               refine steps_cons ?_ ?_
               ·rintro b a w' ⟨v595, v603, m4_, ha, Q_HO_151, Q_BK487, Q_BK593, Q_HB, Q_HO596, Q_HO604, Q_X4_⟩ hb_ hon hoff
                refine ⟨_, rfl, fun K hK => ?_⟩
                replace ha := Aside0.mk ha
                have HO_151 := Aside0.mk Q_HO_151
                have BK487 := Aside0.mk Q_BK487
                have BK593 := Aside0.mk Q_BK593
                have HB := Aside0.mk Q_HB
                refine goes_ Tryd.func24 (by kernel_rfl) rfl #[] (by rfl) rfl rfl (by first | (simp only [List.map_toArray, List.map_cons, List.map_nil, Act.eval, Array.getD_eq_getD_getElem?, Option.getD_some]; done) | (simp only [List.map_toArray, List.map_cons, List.map_nil, Act.eval, Array.getD_eq_getD_getElem?, Option.getD_some]; rfl)) ?_
                with_reducible refine (stockadelaw04_exit.calls  t597 t598 t599 t600 t601 _ A91.out).mono ?_
                rintro e w99 ⟨rfl, hb⟩
                refine ⟨_, rfl, ?_⟩
                have n0_ := Aside0.mk (Kd.R_below (by (with_reducible repeat (first | apply Kd.R_alloc | apply Kd.R_drewN | apply Kd.R_drew)); exact HO_151.out) hb)
                have n1_ := Aside0.mk (blk_below (g := gb487) (o := .cells #[.int .u8 24, .int .u8 0, .int .u8 0, .int .i16 0, .int .i32 0] 40 (0, 0)) bk_now hb)
                have n2_ := Aside0.mk (blk_below (g := gb593) (o := .cells #[.int .i64 ((rd_T52 y588 x153_3).f0), .int .i64 ((rd_T52 y588 x153_3).f1), .int .i64 ((rd_T52 y588 x153_3).f2), .int .i64 ((rd_T52 y588 x153_3).f3)] 52 (0, 0)) bk_now hb)
                have n3_ := Aside0.mk (below_step b_now hb)
                have z_HO596 := fun (h0_ : b 1 = true) => (show Kd.R k52 52 w99 w.heap.size (fun k_ => some k_ ≠ (.slice (some ad592) y588.length co87 : Value).ownBlock ∧ k_ ≠ gb593) v595 y594 from by first | exact (Kd.R_below (by (with_reducible repeat (first | apply Kd.R_alloc | apply Kd.R_drewN | apply Kd.R_drew)); exact (Q_HO596 h0_)) hb) | exact Kd.R_mono (Kd.R_below (by (with_reducible repeat (first | apply Kd.R_alloc | apply Kd.R_drewN | apply Kd.R_drew)); exact (Q_HO596 h0_)) hb) (fun _ h_ => by first | trivial | exact h_ | exact h_.1))
                clear HO_151
                clear BK487
                clear BK593
                clear HB
                have HO_151 := n0_
                have BK487 := n1_
                have BK593 := n2_
                have HB := n3_
                clear n0_ n1_ n2_ n3_
                (try clear hb)
                (try clear hb2)
                (try clear hk)
                (try clear hi)
                refine hK.out _ _ ⟨v595, v603, m4_, (by rw [ha.out]; exact putSel_upk 2 hb_ rfl rfl rfl), (by (with_reducible repeat (first | apply Kd.R_alloc | apply Kd.R_drewN | apply Kd.R_drew)); exact HO_151.out), bk_now, bk_now, b_now, z_HO596, fun h0_ => absurd ((hoff 3 (by kernel_rfl)).symm.trans h0_) (by decide), fun h0_ => absurd ((hoff 4 (by kernel_rfl)).symm.trans h0_) (by decide)⟩
               refine steps_cons ?_ ?_
               ·rintro b a w' ⟨v595, v603, m4_, ha, Q_HO_151, Q_BK487, Q_BK593, Q_HB, Q_HO596, Q_HO604, Q_X4_⟩ hb_ hon hoff
                refine ⟨_, rfl, fun K hK => ?_⟩
                have e159 : a.tmps[159]? = some (.agg #[.int .u8 t597, .int .u8 t598, .int .u8 t599, .int .i16 t600, .int .i32 t601]) := by rw [ha]; exact putSel_on (e := (2, 159, .agg #[.int .u8 t597, .int .u8 t598, .int .u8 t599, .int .i16 t600, .int .i32 t601])) 2 rfl rfl (hon 2 (by kernel_rfl)) rfl
                replace ha := Aside0.mk ha
                have HO_151 := Aside0.mk Q_HO_151
                have BK487 := Aside0.mk Q_BK487
                have BK593 := Aside0.mk Q_BK593
                have HB := Aside0.mk Q_HB
                refine Kd.R_lit_step k40 _ 40 ?hg (N := 160) ?hd (xs := ([(⟨t597, t598, t599, t600, t601⟩ : S40)] : List (S40))) (inner := [.int .u8 t597, .int .u8 t598, .int .u8 t599, .int .i16 t600, .int .i32 t601]) (ok := fun _ => True) (okp := fun _ => True) ?hr ?hp (fun _ hk => hk) trivial (Below.refl _ _) (Nat.le_refl _) (by simp) ?_; (case hd => rfl); (case hg => rfl); (case hr => first | (go_simp; done) | (go_simp; rfl)); (case hp => exact (Reps.c5 (show Kd.M k40 _ _ _ (⟨t597, t598, t599, t600, t601⟩ : S40) [.int .u8 t597, .int .u8 t598, .int .u8 t599, .int .i16 t600, .int .i32 t601] from (k40_mkM _ _ _ (⟨t597, t598, t599, t600, t601⟩ : S40) )) (Reps.none _ _)))
                intro v603 w101 ho102 hb hg_ hnew_
                clear hg_ hnew_
                (first | rw [← Ny602.out] at ho102 | (simp only [Int.reduceToNat] at ho102; rw [← Ny602.out] at ho102))
                have n0_ := Aside0.mk (Kd.R_below (by (with_reducible repeat (first | apply Kd.R_alloc | apply Kd.R_drewN | apply Kd.R_drew)); exact HO_151.out) hb)
                have n1_ := Aside0.mk (Kd.R_lower (Kd.R_newB ho102 (g := gb487) (o := .cells #[.int .u8 24, .int .u8 0, .int .u8 0, .int .i16 0, .int .i32 0] 40 (0, 0)) bk_now) (below_size b_now))
                have n2_ := Aside0.mk (blk_below (g := gb487) (o := .cells #[.int .u8 24, .int .u8 0, .int .u8 0, .int .i16 0, .int .i32 0] 40 (0, 0)) bk_now hb)
                have n3_ := Aside0.mk (blk_below (g := gb593) (o := .cells #[.int .i64 ((rd_T52 y588 x153_3).f0), .int .i64 ((rd_T52 y588 x153_3).f1), .int .i64 ((rd_T52 y588 x153_3).f2), .int .i64 ((rd_T52 y588 x153_3).f3)] 52 (0, 0)) bk_now hb)
                have n4_ := Aside0.mk (below_step b_now hb)
                have z_HO596 := fun (h0_ : b 1 = true) => (show Kd.R k52 52 w101 w.heap.size (fun k_ => some k_ ≠ (.slice (some ad592) y588.length co87 : Value).ownBlock ∧ k_ ≠ gb593) v595 y594 from by first | exact (Kd.R_below (by (with_reducible repeat (first | apply Kd.R_alloc | apply Kd.R_drewN | apply Kd.R_drew)); exact (Q_HO596 h0_)) hb) | exact Kd.R_mono (Kd.R_below (by (with_reducible repeat (first | apply Kd.R_alloc | apply Kd.R_drewN | apply Kd.R_drew)); exact (Q_HO596 h0_)) hb) (fun _ h_ => by first | trivial | exact h_ | exact h_.1))
                clear HO_151
                clear BK487
                clear BK593
                clear HB
                have HO_151 := n0_
                have HO604 := n1_
                have BK487 := n2_
                have BK593 := n3_
                have HB := n4_
                clear n0_ n1_ n2_ n3_ n4_
                clear hb ho102
                refine hK.out _ _ ⟨v595, v603, m4_, (by rw [ha.out]; exact putSel_upk 3 hb_ rfl rfl rfl), (by (with_reducible repeat (first | apply Kd.R_alloc | apply Kd.R_drewN | apply Kd.R_drew)); exact HO_151.out), bk_now, bk_now, b_now, z_HO596, fun _ => (by (with_reducible repeat (first | apply Kd.R_alloc | apply Kd.R_drewN | apply Kd.R_drew)); exact Kd.R_mono HO604.out (fun _ hk => hk.2)), fun h0_ => absurd ((hoff 4 (by kernel_rfl)).symm.trans h0_) (by decide)⟩
               refine steps_cons ?_ ?_
               ·rintro b a w' ⟨v595, v603, m4_, ha, Q_HO_151, Q_BK487, Q_BK593, Q_HB, Q_HO596, Q_HO604, Q_X4_⟩ hb_ hon hoff
                refine ⟨_, rfl, fun K hK => ?_⟩
                have e158 : a.tmps[158]? = some (v595) := by rw [ha]; exact putSel_on (e := (1, 158, v595)) 1 rfl rfl (hon 1 (by kernel_rfl)) rfl
                have e160 : a.tmps[160]? = some (v603) := by rw [ha]; exact putSel_on (e := (3, 160, v603)) 3 rfl rfl (hon 3 (by kernel_rfl)) rfl
                replace ha := Aside0.mk ha
                have HO_151 := Aside0.mk Q_HO_151
                have BK487 := Aside0.mk Q_BK487
                have BK593 := Aside0.mk Q_BK593
                have HB := Aside0.mk Q_HB
                have HO596 := Aside0.mk (Q_HO596 (hon 1 (by kernel_rfl)))
                have HO604 := Aside0.mk (Q_HO604 (hon 3 (by kernel_rfl)))
                obtain ⟨Ao4_0, co4_0, eo_⟩ := Kd.R_slice HO596.out
                subst eo_
                obtain ⟨Ao4_1, co4_1, eo_⟩ := Kd.R_slice HO604.out
                subst eo_
                refine value_ (w1 := w') (v := .agg #[.slice Ao4_0 y594.length co4_0, .slice Ao4_1 y602.length co4_1]) (by rfl) rfl ?_ ?_
                ·go_simp
                 (try simp only [i64_w])
                 try rfl
                refine hK.out _ _ ⟨.slice Ao4_0 y594.length co4_0, .slice Ao4_1 y602.length co4_1, (.agg #[.slice Ao4_0 y594.length co4_0, .slice Ao4_1 y602.length co4_1]), (by rw [ha.out]; exact putSel_upk 4 hb_ rfl rfl rfl), Q_HO_151, Q_BK487, Q_BK593, Q_HB, Q_HO596, Q_HO604, fun _ => rfl⟩
               refine steps_cons ?_ ?_
               ·rintro b a w' ⟨v595, v603, m4_, ha, Q_HO_151, Q_BK487, Q_BK593, Q_HB, Q_HO596, Q_HO604, Q_X4_⟩ hb_ hon hoff
                refine ⟨_, rfl, fun K hK => ?_⟩
                have e161 : a.tmps[161]? = some (m4_) := by rw [ha]; exact putSel_on (e := (4, 161, m4_)) 4 rfl rfl (hon 4 (by kernel_rfl)) rfl
                rw [Q_X4_ (hon 4 (by kernel_rfl))] at e161
                replace ha := Aside0.mk ha
                have HO_151 := Aside0.mk Q_HO_151
                have BK487 := Aside0.mk Q_BK487
                have BK593 := Aside0.mk Q_BK593
                have HB := Aside0.mk Q_HB
                have HO596 := Aside0.mk (Q_HO596 (hon 1 (by kernel_rfl)))
                have HO604 := Aside0.mk (Q_HO604 (hon 3 (by kernel_rfl)))
                obtain ⟨Ao107, co107, eo107⟩ := Kd.R_slice HO604.out
                (first | subst eo107 | (injection eo107 with f1_ f2_ f3_; have f4_ := f1_.symm; have f5_ := f3_.symm; clear f1_ f2_ f3_; subst f4_; subst f5_))
                obtain ⟨Ao108, co108, eo108⟩ := Kd.R_slice HO596.out
                (first | subst eo108 | (injection eo108 with f1_ f2_ f3_; have f4_ := f1_.symm; have f5_ := f3_.symm; clear f1_ f2_ f3_; subst f4_; subst f5_))
                refine goes_ Tryd.func21 (by kernel_rfl) rfl #[.agg #[.slice Ao108 y594.length co108, .slice Ao107 y602.length co107]] (by rfl) rfl rfl (by first | (simp only [List.map_toArray, List.map_cons, List.map_nil, Act.eval, Array.getD_eq_getD_getElem?, Option.getD_some, e161]; done) | (simp only [List.map_toArray, List.map_cons, List.map_nil, Act.eval, Array.getD_eq_getD_getElem?, Option.getD_some, e161]; rfl)) ?_
                with_reducible refine (stockadelaw04_right.calls _ _ y594 _ _ y602 false _ ?side1 ?side2 ?side3 ?side4 ?side5 A92.out).mono ?_
                (case side1 => repeat (first | exact (Kd.R_reads' HO596.out).2.2 | (with_reducible refine Kd.C_alloc ?_ _) | (with_reducible refine Kd.C_drewN ?_ _) | (with_reducible refine Kd.C_drew ?_)))
                (case side2 => exact (Kd.R_reads' HO596.out).2.1)
                (case side3 => repeat (first | exact (Kd.R_reads' HO604.out).2.2 | (with_reducible refine Kd.C_alloc ?_ _) | (with_reducible refine Kd.C_drewN ?_ _) | (with_reducible refine Kd.C_drew ?_)))
                (case side4 => exact (Kd.R_reads' HO604.out).2.1)
                (case side5 => repeat (first | exact (Kd.C_below HRG0.out HB.out) | (with_reducible refine Kd.C_alloc ?_ _) | (with_reducible refine Kd.C_drewN ?_ _) | (with_reducible refine Kd.C_drew ?_)))
                rintro e w109 ⟨rfl, hb⟩
                refine ⟨_, rfl, ?_⟩
                have n0_ := Aside0.mk (Kd.R_below (by (with_reducible repeat (first | apply Kd.R_alloc | apply Kd.R_drewN | apply Kd.R_drew)); exact HO_151.out) hb)
                have n1_ := Aside0.mk (Kd.R_below (by (with_reducible repeat (first | apply Kd.R_alloc | apply Kd.R_drewN | apply Kd.R_drew)); exact HO596.out) hb)
                have n2_ := Aside0.mk (Kd.R_below (by (with_reducible repeat (first | apply Kd.R_alloc | apply Kd.R_drewN | apply Kd.R_drew)); exact HO604.out) hb)
                have n3_ := Aside0.mk (blk_below (g := gb487) (o := .cells #[.int .u8 24, .int .u8 0, .int .u8 0, .int .i16 0, .int .i32 0] 40 (0, 0)) bk_now hb)
                have n4_ := Aside0.mk (blk_below (g := gb593) (o := .cells #[.int .i64 ((rd_T52 y588 x153_3).f0), .int .i64 ((rd_T52 y588 x153_3).f1), .int .i64 ((rd_T52 y588 x153_3).f2), .int .i64 ((rd_T52 y588 x153_3).f3)] 52 (0, 0)) bk_now hb)
                have n5_ := Aside0.mk (below_step b_now hb)
                clear HO_151
                clear HO596
                clear HO604
                clear BK487
                clear BK593
                clear HB
                have HO_151 := n0_
                have HO596 := n1_
                have HO604 := n2_
                have BK487 := n3_
                have BK593 := n4_
                have HB := n5_
                clear n0_ n1_ n2_ n3_ n4_ n5_
                (try clear hb)
                (try clear hb2)
                (try clear hk)
                (try clear hi)
                refine hK.out _ _ ⟨.slice Ao108 y594.length co108, .slice Ao107 y602.length co107, m4_, (by rw [ha.out]; exact putSel_upk 5 hb_ rfl rfl rfl), (by (with_reducible repeat (first | apply Kd.R_alloc | apply Kd.R_drewN | apply Kd.R_drew)); exact HO_151.out), bk_now, bk_now, b_now, fun _ => (by (with_reducible repeat (first | apply Kd.R_alloc | apply Kd.R_drewN | apply Kd.R_drew)); exact HO596.out), fun _ => (by (with_reducible repeat (first | apply Kd.R_alloc | apply Kd.R_drewN | apply Kd.R_drew)); exact HO604.out), Q_X4_⟩
               exact steps_nil
              rintro b a w107 hall ⟨v595, v603, m4_, ha, Q_HO_151, Q_BK487, Q_BK593, Q_HB, Q_HO596, Q_HO604, Q_X4_⟩
              clear BK487 BK593 HB HO_151
              have hb0_ := hall 0 (by kernel_rfl)
              have hb1_ := hall 1 (by kernel_rfl)
              have hb2_ := hall 2 (by kernel_rfl)
              have hb3_ := hall 3 (by kernel_rfl)
              have hb4_ := hall 4 (by kernel_rfl)
              have hb5_ := hall 5 (by kernel_rfl)
              subst ha
              obtain rfl := Q_X4_ hb4_
              simp only [putSel, hb0_, hb1_, hb2_, hb3_, hb4_, hb5_, if_true, Act.put, List.setIfInBounds_toArray, List.set_cons_zero, List.set_cons_succ]
              have HO_151 := Aside0.mk Q_HO_151
              clear Q_HO_151
              have BK487 := Aside0.mk Q_BK487
              clear Q_BK487
              have BK593 := Aside0.mk Q_BK593
              clear Q_BK593
              have HB := Aside0.mk Q_HB
              clear Q_HB
              have HO596 := Aside0.mk (Q_HO596 hb1_)
              clear Q_HO596
              have HO604 := Aside0.mk (Q_HO604 hb3_)
              clear Q_HO604
              clear hall hb0_ hb1_ hb2_ hb3_ hb4_ hb5_
              obtain ⟨Ao108, co108, eo108⟩ := Kd.R_slice HO604.out
              (first | subst eo108 | (injection eo108 with f1_ f2_ f3_; have f4_ := f1_.symm; have f5_ := f3_.symm; clear f1_ f2_ f3_; subst f4_; subst f5_))
              obtain ⟨Ao109, co109, eo109⟩ := Kd.R_slice HO596.out
              (first | subst eo109 | (injection eo109 with f1_ f2_ f3_; have f4_ := f1_.symm; have f5_ := f3_.symm; clear f1_ f2_ f3_; subst f4_; subst f5_))
              try go_wp2
              go_roundg k3
              case measure => have := HK1.out; have := HJ62.out; have := HK3.out; omega
              case rel => exact ⟨(wrap64 (x153_3 + 1)), eq_now, H', ⟨by have := HK1.out; have := HJ62.out; have := HK3.out; omega⟩, ⟨by (with_reducible repeat (first | apply Kd.R_alloc | apply Kd.R_drewN | apply Kd.R_drew)); exact Kd.R_mono HO_151.out (fun _ hk => trivial)⟩, ⟨bk_now⟩, ⟨b_now⟩⟩
            ·rw [if_neg c90] at H
             exact absurd H (by simp)
           ·rw [if_neg c89] at H
            exact absurd H (by simp)
          ·rw [if_neg c88] at H
           have c88b0 : decide (x153_3 < (y588.length : Int)) = false := decide_eq_false c88
           clear c88
           replace H := Option.bind_eq_some_iff.mp H; obtain ⟨t591, A1100, H⟩ := H; try dsimp only at H
           have A110 := Aside0.mk A1100
           clear A1100
           by_cases c111 : t591 = true
           ·subst c111
            replace H := sh_t H
            by_cases c112 : t492 = 23
            ·rw [if_pos c112] at H
             have c112b0 : (t492 == 23) = true := beq_iff_eq.mpr c112
             have c112b1 : (t492 != 23) = false := bne_eq_false_iff_eq.mpr c112
             clear c112
             by_cases c113 : t502 = 0
             ·rw [if_pos c113] at H
              have c113b0 : (t502 == 0) = true := beq_iff_eq.mpr c113
              have c113b1 : (t502 != 0) = false := bne_eq_false_iff_eq.mpr c113
              clear c113
              by_cases c114 : t511 = 0
              ·rw [if_pos c114] at H
               have c114b0 : (t511 == 0) = true := beq_iff_eq.mpr c114
               have c114b1 : (t511 != 0) = false := bne_eq_false_iff_eq.mpr c114
               clear c114
               by_cases c115 : t512 = 24
               ·rw [if_pos c115] at H
                have c115b0 : (t512 == 24) = true := beq_iff_eq.mpr c115
                have c115b1 : (t512 != 24) = false := bne_eq_false_iff_eq.mpr c115
                clear c115
                by_cases c116 : t522 = 27
                ·rw [if_pos c116] at H
                 have c116b0 : (t522 == 27) = true := beq_iff_eq.mpr c116
                 have c116b1 : (t522 != 27) = false := bne_eq_false_iff_eq.mpr c116
                 clear c116
                 by_cases c117 : t536 = 1
                 ·rw [if_pos c117] at H
                  have c117b0 : (t536 == 1) = true := beq_iff_eq.mpr c117
                  have c117b1 : (t536 != 1) = false := bne_eq_false_iff_eq.mpr c117
                  clear c117
                  by_cases c118 : t537 = 26
                  ·rw [if_pos c118] at H
                   have c118b0 : (t537 == 26) = true := beq_iff_eq.mpr c118
                   have c118b1 : (t537 != 26) = false := bne_eq_false_iff_eq.mpr c118
                   clear c118
                   by_cases c119 : t542 = 26
                   ·rw [if_pos c119] at H
                    have c119b0 : (t542 == 26) = true := beq_iff_eq.mpr c119
                    have c119b1 : (t542 != 26) = false := bne_eq_false_iff_eq.mpr c119
                    clear c119
                    by_cases c120 : t547 = 0
                    ·rw [if_pos c120] at H
                     have c120b0 : (t547 == 0) = true := beq_iff_eq.mpr c120
                     have c120b1 : (t547 != 0) = false := bne_eq_false_iff_eq.mpr c120
                     clear c120
                     by_cases c121 : t557 = 0
                     ·rw [if_pos c121] at H
                      have c121b0 : (t557 == 0) = true := beq_iff_eq.mpr c121
                      have c121b1 : (t557 != 0) = false := bne_eq_false_iff_eq.mpr c121
                      clear c121
                      obtain rfl := Option.some.inj H
                      go_wp2_with (first | (go_at_call 13; (with_reducible refine (stockadelaw04_awake.calls  true _ ?side1 (by first | rfl | exact HRT.out) A110.out).mono ?_); (case side1 => repeat (first | exact (Kd.C_below HRG0.out HB.out) | (with_reducible refine Kd.C_alloc ?_ _) | (with_reducible refine Kd.C_drewN ?_ _) | (with_reducible refine Kd.C_drew ?_))); rintro e w122 ⟨rfl, hb⟩; replace HO_151 := Aside0.mk (Kd.R_below (by (with_reducible repeat (first | apply Kd.R_alloc | apply Kd.R_drewN | apply Kd.R_drew)); exact HO_151.out) hb); replace BK487 := sh_k BK487 hb; replace HB := sh_b (w := w) hb; (try clear hb); (try clear hb2); (try clear hk); (try clear hi)))
                      go_ret
                      exact ⟨ret_now, b_now⟩
                     ·rw [if_neg c121] at H
                      have c121b0 : (t557 == 0) = false := beq_eq_false_iff_ne.mpr c121
                      have c121b1 : (t557 != 0) = true := bne_iff_ne.mpr c121
                      obtain rfl := Option.some.inj H
                      exact absurd HRT.out (by simp)
                    ·rw [if_neg c120] at H
                     have c120b0 : (t547 == 0) = false := beq_eq_false_iff_ne.mpr c120
                     have c120b1 : (t547 != 0) = true := bne_iff_ne.mpr c120
                     obtain rfl := Option.some.inj H
                     exact absurd HRT.out (by simp)
                   ·rw [if_neg c119] at H
                    have c119b0 : (t542 == 26) = false := beq_eq_false_iff_ne.mpr c119
                    have c119b1 : (t542 != 26) = true := bne_iff_ne.mpr c119
                    obtain rfl := Option.some.inj H
                    exact absurd HRT.out (by simp)
                  ·rw [if_neg c118] at H
                   have c118b0 : (t537 == 26) = false := beq_eq_false_iff_ne.mpr c118
                   have c118b1 : (t537 != 26) = true := bne_iff_ne.mpr c118
                   obtain rfl := Option.some.inj H
                   exact absurd HRT.out (by simp)
                 ·rw [if_neg c117] at H
                  have c117b0 : (t536 == 1) = false := beq_eq_false_iff_ne.mpr c117
                  have c117b1 : (t536 != 1) = true := bne_iff_ne.mpr c117
                  obtain rfl := Option.some.inj H
                  exact absurd HRT.out (by simp)
                ·rw [if_neg c116] at H
                 have c116b0 : (t522 == 27) = false := beq_eq_false_iff_ne.mpr c116
                 have c116b1 : (t522 != 27) = true := bne_iff_ne.mpr c116
                 obtain rfl := Option.some.inj H
                 exact absurd HRT.out (by simp)
               ·rw [if_neg c115] at H
                have c115b0 : (t512 == 24) = false := beq_eq_false_iff_ne.mpr c115
                have c115b1 : (t512 != 24) = true := bne_iff_ne.mpr c115
                obtain rfl := Option.some.inj H
                exact absurd HRT.out (by simp)
              ·rw [if_neg c114] at H
               have c114b0 : (t511 == 0) = false := beq_eq_false_iff_ne.mpr c114
               have c114b1 : (t511 != 0) = true := bne_iff_ne.mpr c114
               obtain rfl := Option.some.inj H
               exact absurd HRT.out (by simp)
             ·rw [if_neg c113] at H
              have c113b0 : (t502 == 0) = false := beq_eq_false_iff_ne.mpr c113
              have c113b1 : (t502 != 0) = true := bne_iff_ne.mpr c113
              obtain rfl := Option.some.inj H
              exact absurd HRT.out (by simp)
            ·rw [if_neg c112] at H
             have c112b0 : (t492 == 23) = false := beq_eq_false_iff_ne.mpr c112
             have c112b1 : (t492 != 23) = true := bne_iff_ne.mpr c112
             obtain rfl := Option.some.inj H
             exact absurd HRT.out (by simp)
           ·replace c111 := Bool.eq_false_iff.mpr c111
            subst c111
            replace H := sh_f H
            obtain rfl := Option.some.inj H
            exact absurd HRT.out (by simp)
    ·rw [if_neg c57] at H
     exact absurd H (by simp)

end Go.Proofs.YtdhiibkcoolbeaaDoor.P
