/- Made by this session's driver over the kit's printer: for each Go function a Lean function with the same answers, and a proof that the Go call comes to these answers; no conditions but the ones each theorem names. -/
import Derived.Test.YtondogoepcndiaaDoorPx0
import Derived.Test.YtondogoepcndiaaDoorPx10
import Derived.Test.YtondogoepcndiaaDoorPx21
namespace Go.Proofs.YtondogoepcndiaaDoor.P
open Go.RowKit Go.Proofs.YtondogoepcndiaaDoorW.PrintWords Go.Proofs.YtondogoepcndiaaDoorW.PrintLast Go.Proofs.YtondogoepcndiaaDoorW.PrintMore
attribute [local go_sem] max2_int min2_int max_two min_two max_three min_three max_four min_four   -- for this text's walks alone
set_option linter.unusedVariables false
set_option linter.unusedSimpArgs false

/-! ### stockadelaw03_AsmKnown: function 7 -/
mutual
def stockadelaw03_AsmKnown.l0 : Nat → List (S41) → Int → Int → Option (Bool)
 | 0, _, _, _ => none
 | k + 1, x55, x56, x57 => if x57 < x56 then (if 0 ≤ x57 then (if x57 < (x55.length : Int) then ((asm_Print.f k ((rd_T41 x55 x57).f0)).bind fun bt682 => ((asm_Parse.f k ((rd_T41 x55 x57).f1)).bind fun bt684 => (if bt682.1.toList = ((rd_T41 x55 x57).f1).toList then (if bt682.2 = 0 then ((stockadelaw03_same.f k bt684.1 ((rd_T41 x55 x57).f0)).bind fun t689 => (if t689 = true then (if bt684.2.1 = 0 then (if bt684.2.2 = 0 then (stockadelaw03_AsmKnown.l0 k x55 x56 (wrap64 (x57 + 1))) else (some false)) else (some false)) else (some false))) else (some false)) else (some false)))) else (none)) else (none)) else ((some (([(⟨#[101, 120, 105, 116]⟩ : ByteArray), (⟨#[109, 111, 118, 54, 52, 32, 114, 49, 48, 44, 32, 49, 10]⟩ : ByteArray), (⟨#[103, 111, 116, 111, 32, 50, 10]⟩ : ByteArray), (⟨#[109, 111, 118, 54, 52, 32, 114, 49, 44, 53, 10]⟩ : ByteArray), (⟨#[109, 111, 118, 54, 52, 32, 114, 49, 44, 32, 48, 53, 10]⟩ : ByteArray), (⟨#[109, 111, 118, 54, 52, 32, 114, 49, 44, 32, 45, 48, 10]⟩ : ByteArray), (⟨#[109, 111, 118, 54, 52, 32, 114, 49, 49, 44, 32, 49, 10]⟩ : ByteArray), (⟨#[109, 111, 118, 49, 54, 32, 114, 49, 44, 32, 49, 10]⟩ : ByteArray), (⟨#[110, 101, 103, 54, 52, 32, 114, 49, 44, 32, 49, 10]⟩ : ByteArray), (⟨#[108, 111, 97, 100, 51, 50, 32, 114, 49, 44, 32, 114, 50, 10]⟩ : ByteArray), (⟨#[108, 111, 97, 100, 51, 50, 32, 114, 49, 44, 32, 114, 50, 45, 48, 10]⟩ : ByteArray), (⟨#[101, 120, 105, 116, 32, 10]⟩ : ByteArray), (⟨#[32, 101, 120, 105, 116, 10]⟩ : ByteArray), (⟨#[10]⟩ : ByteArray), (⟨#[99, 111, 110, 115, 116, 32, 114, 49, 44, 32, 49, 56, 52, 52, 54, 55, 52, 52, 48, 55, 51, 55, 48, 57, 53, 53, 49, 54, 49, 54, 10]⟩ : ByteArray), (⟨#[99, 97, 108, 108, 32, 50, 49, 52, 55, 52, 56, 51, 54, 52, 56, 10]⟩ : ByteArray), (⟨#[103, 111, 116, 111, 32, 43, 51, 50, 55, 54, 56, 10]⟩ : ByteArray), (⟨#[69, 120, 105, 116, 10]⟩ : ByteArray), (⟨#[101, 120, 105, 116, 13, 10]⟩ : ByteArray)] : List ByteArray) : List ByteArray)).bind fun y690 => (stockadelaw03_AsmKnown.l1 k y690 (y690.length : Int) 0))
def stockadelaw03_AsmKnown.l1 : Nat → List ByteArray → Int → Int → Option (Bool)
 | 0, _, _, _ => none
 | k + 1, x98, x99, x100 => if x100 < x99 then (if 0 ≤ x100 then (if x100 < (x98.length : Int) then ((asm_Parse.f k (rdOf ByteArray.empty x98 x100)).bind fun bt694 => (if bt694.2.2 = 5 then (if bt694.2.1 = 1 then (if (bt694.1.length : Int) = 0 then (stockadelaw03_AsmKnown.l1 k x98 x99 (wrap64 (x100 + 1))) else (some false)) else (some false)) else (some false))) else (none)) else (none)) else (if 512 ≤ 23456248059221 then (stockadelaw03_AsmKnown.l2 k (List.replicate 512 z37) 0) else (none))
def stockadelaw03_AsmKnown.l2 : Nat → List (S37) → Int → Option (Bool)
 | 0, _, _ => none
 | k + 1, x13, x14 => if x14 < (x13.length : Int) then (if 0 ≤ x14 then (stockadelaw03_AsmKnown.l2 k (x13.set (x14 : Int).toNat (⟨149, 0, 0, 0, 0⟩ : S37)) (wrap64 (x14 + 1))) else (none)) else ((asm_Print.f k x13).bind fun bt703 => (if x13.length < 11728124029610 then ((asm_Print.f k (x13 ++ [(⟨0, 0, 0, 0, 0⟩ : S37)])).bind fun bt708 => ((asm_Parse.f k bt703.1).bind fun bt710 => (if bt703.1.size + 5 ≤ 9223372036854775807 then ((asm_Parse.f k (bt703.1 ++ (⟨#[101, 120, 105, 116, 10]⟩ : ByteArray))).bind fun bt715 => (if 65537 ≤ 281474976710656 then ((asm_Parse.f k (strOfNums (List.replicate 65537 0))).bind fun bt723 => ((asm_Print.f k (([(⟨24, 0, 0, 0, 0⟩ : S37)] : List (S37)))).bind fun bt731 => ((asm_Print.f k (([(⟨24, 0, 1, 0, 0⟩ : S37), (⟨0, 0, 0, 0, 1⟩ : S37)] : List (S37)))).bind fun bt736 => (if bt703.2 = 0 then (if bt708.2 = 3 then (if (bt710.1.length : Int) = 512 then (if bt710.2.1 = 0 then (if bt710.2.2 = 0 then (if bt715.2.1 = 513 then (if bt715.2.2 = 3 then (if bt723.2.1 = 0 then (if bt723.2.2 = 3 then (if bt731.2 = 23 then (if bt736.2 = 23 then ((stockadelaw03_wakes.f k).bind fun t738 => (some t738)) else (some false)) else (some false)) else (some false)) else (some false)) else (some false)) else (some false)) else (some false)) else (some false)) else (some false)) else (some false)) else (some false))))) else (none))) else (none)))) else (none)))
end
def stockadelaw03_AsmKnown.f (k : Nat)  : Option (Bool) := (some (([(⟨(([(⟨12, 9, 10, 0, 0⟩ : S37), (⟨132, 2, 0, 0, 0⟩ : S37)] : List (S37))), (⟨#[97, 100, 100, 51, 50, 32, 114, 57, 44, 32, 114, 49, 48, 10, 110, 101, 103, 51, 50, 32, 114, 50, 10]⟩ : ByteArray)⟩ : S41), (⟨(([(⟨215, 3, 0, 0, 16⟩ : S37)] : List (S37))), (⟨#[115, 119, 97, 112, 49, 54, 32, 114, 51, 10]⟩ : ByteArray)⟩ : S41), (⟨(([(⟨122, 10, 0, 0, 7⟩ : S37)] : List (S37))), (⟨#[112, 117, 116, 54, 52, 32, 114, 49, 48, 43, 48, 44, 32, 55, 10]⟩ : ByteArray)⟩ : S41), (⟨(([(⟨46, 1, 2, (-1), 0⟩ : S37)] : List (S37))), (⟨#[106, 103, 116, 51, 50, 32, 114, 49, 44, 32, 114, 50, 44, 32, 45, 49, 10]⟩ : ByteArray)⟩ : S41), (⟨(([(⟨5, 0, 0, 2, 0⟩ : S37), (⟨133, 0, 0, 0, 1⟩ : S37), (⟨149, 0, 0, 0, 0⟩ : S37)] : List (S37))), (⟨#[103, 111, 116, 111, 32, 43, 50, 10, 99, 97, 108, 108, 32, 49, 10, 101, 120, 105, 116, 10]⟩ : ByteArray)⟩ : S41), (⟨(([(⟨24, 2, 1, 0, 0⟩ : S37), (⟨0, 0, 0, 0, 0⟩ : S37)] : List (S37))), (⟨#[109, 97, 112, 32, 114, 50, 44, 32, 48, 10]⟩ : ByteArray)⟩ : S41), (⟨([] : List (S37)), (⟨#[]⟩ : ByteArray)⟩ : S41)] : List (S41)) : List (S41))).bind fun y677 => (stockadelaw03_AsmKnown.l0 k y677 (y677.length : Int) 0)
theorem stockadelaw03_AsmKnown.mono_l : ∀ k, (∀ y0 y1 y2, LeO (stockadelaw03_AsmKnown.l0 k y0 y1 y2) (stockadelaw03_AsmKnown.l0 (k + 1) y0 y1 y2)) ∧ (∀ y0 y1 y2, LeO (stockadelaw03_AsmKnown.l1 k y0 y1 y2) (stockadelaw03_AsmKnown.l1 (k + 1) y0 y1 y2)) ∧ (∀ y0 y1, LeO (stockadelaw03_AsmKnown.l2 k y0 y1) (stockadelaw03_AsmKnown.l2 (k + 1) y0 y1))
 | 0 => ⟨fun _ _ _ r h => by simp [stockadelaw03_AsmKnown.l0] at h, fun _ _ _ r h => by simp [stockadelaw03_AsmKnown.l1] at h, fun _ _ r h => by simp [stockadelaw03_AsmKnown.l2] at h⟩
 | k + 1 => by
  obtain ⟨ih0, ih1, ih2⟩ := stockadelaw03_AsmKnown.mono_l k
  refine ⟨?_, ?_, ?_⟩
  ·intro y0 y1 y2
   unfold stockadelaw03_AsmKnown.l0
   repeat' first
   | (with_reducible exact ih0 _ _ _)
   | (with_reducible exact ih1 _ _ _)
   | (with_reducible exact ih2 _ _)
   | (with_reducible exact asm_Parse.mono _ _)
   | (with_reducible exact asm_Print.mono _ _)
   | (with_reducible exact stockadelaw03_same.mono _ _ _)
   | (with_reducible exact stockadelaw03_wakes.mono _)
   | (with_reducible exact LeO.refl _)
   | (with_reducible exact LeO.none _)
   | (with_reducible refine LeO.ite ?_ ?_)
   | (with_reducible refine LeO.bind ?_ (fun _ => ?_))
   | refine LeO.ite ?_ ?_
   | refine LeO.bind ?_ (fun _ => ?_)
  ·intro y0 y1 y2
   unfold stockadelaw03_AsmKnown.l1
   repeat' first
   | (with_reducible exact ih0 _ _ _)
   | (with_reducible exact ih1 _ _ _)
   | (with_reducible exact ih2 _ _)
   | (with_reducible exact asm_Parse.mono _ _)
   | (with_reducible exact asm_Print.mono _ _)
   | (with_reducible exact stockadelaw03_same.mono _ _ _)
   | (with_reducible exact stockadelaw03_wakes.mono _)
   | (with_reducible exact LeO.refl _)
   | (with_reducible exact LeO.none _)
   | (with_reducible refine LeO.ite ?_ ?_)
   | (with_reducible refine LeO.bind ?_ (fun _ => ?_))
   | refine LeO.ite ?_ ?_
   | refine LeO.bind ?_ (fun _ => ?_)
  ·intro y0 y1
   unfold stockadelaw03_AsmKnown.l2
   repeat' first
   | (with_reducible exact ih0 _ _ _)
   | (with_reducible exact ih1 _ _ _)
   | (with_reducible exact ih2 _ _)
   | (with_reducible exact asm_Parse.mono _ _)
   | (with_reducible exact asm_Print.mono _ _)
   | (with_reducible exact stockadelaw03_same.mono _ _ _)
   | (with_reducible exact stockadelaw03_wakes.mono _)
   | (with_reducible exact LeO.refl _)
   | (with_reducible exact LeO.none _)
   | (with_reducible refine LeO.ite ?_ ?_)
   | (with_reducible refine LeO.bind ?_ (fun _ => ?_))
   | refine LeO.ite ?_ ?_
   | refine LeO.bind ?_ (fun _ => ?_)
theorem stockadelaw03_AsmKnown.mono : ∀ k, LeO (stockadelaw03_AsmKnown.f k ) (stockadelaw03_AsmKnown.f (k + 1) ) := by
 intro  k
 obtain ⟨ih0, ih1, ih2⟩ := stockadelaw03_AsmKnown.mono_l k
 unfold stockadelaw03_AsmKnown.f
 repeat' first
   | (with_reducible exact ih0 _ _ _)
   | (with_reducible exact ih1 _ _ _)
   | (with_reducible exact ih2 _ _)
   | (with_reducible exact asm_Parse.mono _ _)
   | (with_reducible exact asm_Print.mono _ _)
   | (with_reducible exact stockadelaw03_same.mono _ _ _)
   | (with_reducible exact stockadelaw03_wakes.mono _)
   | (with_reducible exact LeO.refl _)
   | (with_reducible exact LeO.none _)
   | (with_reducible refine LeO.ite ?_ ?_)
   | (with_reducible refine LeO.bind ?_ (fun _ => ?_))
   | refine LeO.ite ?_ ?_
   | refine LeO.bind ?_ (fun _ => ?_)
set_option maxHeartbeats 8000000 in
set_option maxRecDepth 100000 in
theorem stockadelaw03_AsmKnown.calls (k : Nat)  (r : Bool) (w : World) (hrG0 : Kd.C Kd.string w (some ⟨0, 0, none⟩) gl0.length gl0) (hrG1 : Kd.C Kd.string w (some ⟨1, 0, none⟩) gl1.length gl1) (hrG2 : Kd.C (Kd.int .i64) w (some ⟨2, 0, none⟩) gl2.length gl2) (hrG3 : Kd.C kGF w (some ⟨3, 0, none⟩) gl3.length gl3) (hr_ : r = true) (h : stockadelaw03_AsmKnown.f k  = some r) :
  Calls Tryd.prog 7 #[] w fun e w' => e = .returned (.bool r) ∧ Below w.heap.size w w' := by
 have hu37 := Tryd.underlying37
 have hu41 := Tryd.underlying41
 have HRG0 := Aside0.mk hrG0
 clear hrG0
 have HRG1 := Aside0.mk hrG1
 clear hrG1
 have HRG2 := Aside0.mk hrG2
 clear hrG2
 have HRG3 := Aside0.mk hrG3
 clear hrG3
 have HRT := Aside0.mk hr_
 clear hr_
 have HB := Aside0.mk (Below.refl w.heap.size w)
 have H : ((some (([(⟨(([(⟨12, 9, 10, 0, 0⟩ : S37), (⟨132, 2, 0, 0, 0⟩ : S37)] : List (S37))), (⟨#[97, 100, 100, 51, 50, 32, 114, 57, 44, 32, 114, 49, 48, 10, 110, 101, 103, 51, 50, 32, 114, 50, 10]⟩ : ByteArray)⟩ : S41), (⟨(([(⟨215, 3, 0, 0, 16⟩ : S37)] : List (S37))), (⟨#[115, 119, 97, 112, 49, 54, 32, 114, 51, 10]⟩ : ByteArray)⟩ : S41), (⟨(([(⟨122, 10, 0, 0, 7⟩ : S37)] : List (S37))), (⟨#[112, 117, 116, 54, 52, 32, 114, 49, 48, 43, 48, 44, 32, 55, 10]⟩ : ByteArray)⟩ : S41), (⟨(([(⟨46, 1, 2, (-1), 0⟩ : S37)] : List (S37))), (⟨#[106, 103, 116, 51, 50, 32, 114, 49, 44, 32, 114, 50, 44, 32, 45, 49, 10]⟩ : ByteArray)⟩ : S41), (⟨(([(⟨5, 0, 0, 2, 0⟩ : S37), (⟨133, 0, 0, 0, 1⟩ : S37), (⟨149, 0, 0, 0, 0⟩ : S37)] : List (S37))), (⟨#[103, 111, 116, 111, 32, 43, 50, 10, 99, 97, 108, 108, 32, 49, 10, 101, 120, 105, 116, 10]⟩ : ByteArray)⟩ : S41), (⟨(([(⟨24, 2, 1, 0, 0⟩ : S37), (⟨0, 0, 0, 0, 0⟩ : S37)] : List (S37))), (⟨#[109, 97, 112, 32, 114, 50, 44, 32, 48, 10]⟩ : ByteArray)⟩ : S41), (⟨([] : List (S37)), (⟨#[]⟩ : ByteArray)⟩ : S41)] : List (S41)) : List (S41))).bind fun y677 => (stockadelaw03_AsmKnown.l0 k y677 (y677.length : Int) 0)) = some r := h
 clear h
 obtain ⟨y659, hy659⟩ : ∃ y_ : List (S37), y_ = (([(⟨12, 9, 10, 0, 0⟩ : S37), (⟨132, 2, 0, 0, 0⟩ : S37)] : List (S37))) := ⟨_, rfl⟩
 replace H : ((some (([(⟨y659, (⟨#[97, 100, 100, 51, 50, 32, 114, 57, 44, 32, 114, 49, 48, 10, 110, 101, 103, 51, 50, 32, 114, 50, 10]⟩ : ByteArray)⟩ : S41), (⟨(([(⟨215, 3, 0, 0, 16⟩ : S37)] : List (S37))), (⟨#[115, 119, 97, 112, 49, 54, 32, 114, 51, 10]⟩ : ByteArray)⟩ : S41), (⟨(([(⟨122, 10, 0, 0, 7⟩ : S37)] : List (S37))), (⟨#[112, 117, 116, 54, 52, 32, 114, 49, 48, 43, 48, 44, 32, 55, 10]⟩ : ByteArray)⟩ : S41), (⟨(([(⟨46, 1, 2, (-1), 0⟩ : S37)] : List (S37))), (⟨#[106, 103, 116, 51, 50, 32, 114, 49, 44, 32, 114, 50, 44, 32, 45, 49, 10]⟩ : ByteArray)⟩ : S41), (⟨(([(⟨5, 0, 0, 2, 0⟩ : S37), (⟨133, 0, 0, 0, 1⟩ : S37), (⟨149, 0, 0, 0, 0⟩ : S37)] : List (S37))), (⟨#[103, 111, 116, 111, 32, 43, 50, 10, 99, 97, 108, 108, 32, 49, 10, 101, 120, 105, 116, 10]⟩ : ByteArray)⟩ : S41), (⟨(([(⟨24, 2, 1, 0, 0⟩ : S37), (⟨0, 0, 0, 0, 0⟩ : S37)] : List (S37))), (⟨#[109, 97, 112, 32, 114, 50, 44, 32, 48, 10]⟩ : ByteArray)⟩ : S41), (⟨([] : List (S37)), (⟨#[]⟩ : ByteArray)⟩ : S41)] : List (S41)) : List (S41))).bind fun y677 => (stockadelaw03_AsmKnown.l0 k y677 (y677.length : Int) 0)) = some r := by first | (rw [hy659]; with_reducible exact H) | (have H2_ := (Option.bind_some _ _).symm.trans H; rw [hy659]; with_reducible exact H2_) | (have H2_ := (Option.bind_some _ _).symm.trans H; with_reducible exact H2_) | with_reducible exact H | (rw [hy659]; exact H) | exact H
 have Ny659 := Aside0.mk hy659
 clear hy659
 obtain ⟨y662, hy662⟩ : ∃ y_ : List (S37), y_ = (([(⟨215, 3, 0, 0, 16⟩ : S37)] : List (S37))) := ⟨_, rfl⟩
 replace H : ((some (([(⟨y659, (⟨#[97, 100, 100, 51, 50, 32, 114, 57, 44, 32, 114, 49, 48, 10, 110, 101, 103, 51, 50, 32, 114, 50, 10]⟩ : ByteArray)⟩ : S41), (⟨y662, (⟨#[115, 119, 97, 112, 49, 54, 32, 114, 51, 10]⟩ : ByteArray)⟩ : S41), (⟨(([(⟨122, 10, 0, 0, 7⟩ : S37)] : List (S37))), (⟨#[112, 117, 116, 54, 52, 32, 114, 49, 48, 43, 48, 44, 32, 55, 10]⟩ : ByteArray)⟩ : S41), (⟨(([(⟨46, 1, 2, (-1), 0⟩ : S37)] : List (S37))), (⟨#[106, 103, 116, 51, 50, 32, 114, 49, 44, 32, 114, 50, 44, 32, 45, 49, 10]⟩ : ByteArray)⟩ : S41), (⟨(([(⟨5, 0, 0, 2, 0⟩ : S37), (⟨133, 0, 0, 0, 1⟩ : S37), (⟨149, 0, 0, 0, 0⟩ : S37)] : List (S37))), (⟨#[103, 111, 116, 111, 32, 43, 50, 10, 99, 97, 108, 108, 32, 49, 10, 101, 120, 105, 116, 10]⟩ : ByteArray)⟩ : S41), (⟨(([(⟨24, 2, 1, 0, 0⟩ : S37), (⟨0, 0, 0, 0, 0⟩ : S37)] : List (S37))), (⟨#[109, 97, 112, 32, 114, 50, 44, 32, 48, 10]⟩ : ByteArray)⟩ : S41), (⟨([] : List (S37)), (⟨#[]⟩ : ByteArray)⟩ : S41)] : List (S41)) : List (S41))).bind fun y677 => (stockadelaw03_AsmKnown.l0 k y677 (y677.length : Int) 0)) = some r := by first | (rw [hy662]; with_reducible exact H) | (have H2_ := (Option.bind_some _ _).symm.trans H; rw [hy662]; with_reducible exact H2_) | (have H2_ := (Option.bind_some _ _).symm.trans H; with_reducible exact H2_) | with_reducible exact H | (rw [hy662]; exact H) | exact H
 have Ny662 := Aside0.mk hy662
 clear hy662
 obtain ⟨y665, hy665⟩ : ∃ y_ : List (S37), y_ = (([(⟨122, 10, 0, 0, 7⟩ : S37)] : List (S37))) := ⟨_, rfl⟩
 replace H : ((some (([(⟨y659, (⟨#[97, 100, 100, 51, 50, 32, 114, 57, 44, 32, 114, 49, 48, 10, 110, 101, 103, 51, 50, 32, 114, 50, 10]⟩ : ByteArray)⟩ : S41), (⟨y662, (⟨#[115, 119, 97, 112, 49, 54, 32, 114, 51, 10]⟩ : ByteArray)⟩ : S41), (⟨y665, (⟨#[112, 117, 116, 54, 52, 32, 114, 49, 48, 43, 48, 44, 32, 55, 10]⟩ : ByteArray)⟩ : S41), (⟨(([(⟨46, 1, 2, (-1), 0⟩ : S37)] : List (S37))), (⟨#[106, 103, 116, 51, 50, 32, 114, 49, 44, 32, 114, 50, 44, 32, 45, 49, 10]⟩ : ByteArray)⟩ : S41), (⟨(([(⟨5, 0, 0, 2, 0⟩ : S37), (⟨133, 0, 0, 0, 1⟩ : S37), (⟨149, 0, 0, 0, 0⟩ : S37)] : List (S37))), (⟨#[103, 111, 116, 111, 32, 43, 50, 10, 99, 97, 108, 108, 32, 49, 10, 101, 120, 105, 116, 10]⟩ : ByteArray)⟩ : S41), (⟨(([(⟨24, 2, 1, 0, 0⟩ : S37), (⟨0, 0, 0, 0, 0⟩ : S37)] : List (S37))), (⟨#[109, 97, 112, 32, 114, 50, 44, 32, 48, 10]⟩ : ByteArray)⟩ : S41), (⟨([] : List (S37)), (⟨#[]⟩ : ByteArray)⟩ : S41)] : List (S41)) : List (S41))).bind fun y677 => (stockadelaw03_AsmKnown.l0 k y677 (y677.length : Int) 0)) = some r := by first | (rw [hy665]; with_reducible exact H) | (have H2_ := (Option.bind_some _ _).symm.trans H; rw [hy665]; with_reducible exact H2_) | (have H2_ := (Option.bind_some _ _).symm.trans H; with_reducible exact H2_) | with_reducible exact H | (rw [hy665]; exact H) | exact H
 have Ny665 := Aside0.mk hy665
 clear hy665
 obtain ⟨y668, hy668⟩ : ∃ y_ : List (S37), y_ = (([(⟨46, 1, 2, (-1), 0⟩ : S37)] : List (S37))) := ⟨_, rfl⟩
 replace H : ((some (([(⟨y659, (⟨#[97, 100, 100, 51, 50, 32, 114, 57, 44, 32, 114, 49, 48, 10, 110, 101, 103, 51, 50, 32, 114, 50, 10]⟩ : ByteArray)⟩ : S41), (⟨y662, (⟨#[115, 119, 97, 112, 49, 54, 32, 114, 51, 10]⟩ : ByteArray)⟩ : S41), (⟨y665, (⟨#[112, 117, 116, 54, 52, 32, 114, 49, 48, 43, 48, 44, 32, 55, 10]⟩ : ByteArray)⟩ : S41), (⟨y668, (⟨#[106, 103, 116, 51, 50, 32, 114, 49, 44, 32, 114, 50, 44, 32, 45, 49, 10]⟩ : ByteArray)⟩ : S41), (⟨(([(⟨5, 0, 0, 2, 0⟩ : S37), (⟨133, 0, 0, 0, 1⟩ : S37), (⟨149, 0, 0, 0, 0⟩ : S37)] : List (S37))), (⟨#[103, 111, 116, 111, 32, 43, 50, 10, 99, 97, 108, 108, 32, 49, 10, 101, 120, 105, 116, 10]⟩ : ByteArray)⟩ : S41), (⟨(([(⟨24, 2, 1, 0, 0⟩ : S37), (⟨0, 0, 0, 0, 0⟩ : S37)] : List (S37))), (⟨#[109, 97, 112, 32, 114, 50, 44, 32, 48, 10]⟩ : ByteArray)⟩ : S41), (⟨([] : List (S37)), (⟨#[]⟩ : ByteArray)⟩ : S41)] : List (S41)) : List (S41))).bind fun y677 => (stockadelaw03_AsmKnown.l0 k y677 (y677.length : Int) 0)) = some r := by first | (rw [hy668]; with_reducible exact H) | (have H2_ := (Option.bind_some _ _).symm.trans H; rw [hy668]; with_reducible exact H2_) | (have H2_ := (Option.bind_some _ _).symm.trans H; with_reducible exact H2_) | with_reducible exact H | (rw [hy668]; exact H) | exact H
 have Ny668 := Aside0.mk hy668
 clear hy668
 obtain ⟨y671, hy671⟩ : ∃ y_ : List (S37), y_ = (([(⟨5, 0, 0, 2, 0⟩ : S37), (⟨133, 0, 0, 0, 1⟩ : S37), (⟨149, 0, 0, 0, 0⟩ : S37)] : List (S37))) := ⟨_, rfl⟩
 replace H : ((some (([(⟨y659, (⟨#[97, 100, 100, 51, 50, 32, 114, 57, 44, 32, 114, 49, 48, 10, 110, 101, 103, 51, 50, 32, 114, 50, 10]⟩ : ByteArray)⟩ : S41), (⟨y662, (⟨#[115, 119, 97, 112, 49, 54, 32, 114, 51, 10]⟩ : ByteArray)⟩ : S41), (⟨y665, (⟨#[112, 117, 116, 54, 52, 32, 114, 49, 48, 43, 48, 44, 32, 55, 10]⟩ : ByteArray)⟩ : S41), (⟨y668, (⟨#[106, 103, 116, 51, 50, 32, 114, 49, 44, 32, 114, 50, 44, 32, 45, 49, 10]⟩ : ByteArray)⟩ : S41), (⟨y671, (⟨#[103, 111, 116, 111, 32, 43, 50, 10, 99, 97, 108, 108, 32, 49, 10, 101, 120, 105, 116, 10]⟩ : ByteArray)⟩ : S41), (⟨(([(⟨24, 2, 1, 0, 0⟩ : S37), (⟨0, 0, 0, 0, 0⟩ : S37)] : List (S37))), (⟨#[109, 97, 112, 32, 114, 50, 44, 32, 48, 10]⟩ : ByteArray)⟩ : S41), (⟨([] : List (S37)), (⟨#[]⟩ : ByteArray)⟩ : S41)] : List (S41)) : List (S41))).bind fun y677 => (stockadelaw03_AsmKnown.l0 k y677 (y677.length : Int) 0)) = some r := by first | (rw [hy671]; with_reducible exact H) | (have H2_ := (Option.bind_some _ _).symm.trans H; rw [hy671]; with_reducible exact H2_) | (have H2_ := (Option.bind_some _ _).symm.trans H; with_reducible exact H2_) | with_reducible exact H | (rw [hy671]; exact H) | exact H
 have Ny671 := Aside0.mk hy671
 clear hy671
 obtain ⟨y674, hy674⟩ : ∃ y_ : List (S37), y_ = (([(⟨24, 2, 1, 0, 0⟩ : S37), (⟨0, 0, 0, 0, 0⟩ : S37)] : List (S37))) := ⟨_, rfl⟩
 replace H : ((some (([(⟨y659, (⟨#[97, 100, 100, 51, 50, 32, 114, 57, 44, 32, 114, 49, 48, 10, 110, 101, 103, 51, 50, 32, 114, 50, 10]⟩ : ByteArray)⟩ : S41), (⟨y662, (⟨#[115, 119, 97, 112, 49, 54, 32, 114, 51, 10]⟩ : ByteArray)⟩ : S41), (⟨y665, (⟨#[112, 117, 116, 54, 52, 32, 114, 49, 48, 43, 48, 44, 32, 55, 10]⟩ : ByteArray)⟩ : S41), (⟨y668, (⟨#[106, 103, 116, 51, 50, 32, 114, 49, 44, 32, 114, 50, 44, 32, 45, 49, 10]⟩ : ByteArray)⟩ : S41), (⟨y671, (⟨#[103, 111, 116, 111, 32, 43, 50, 10, 99, 97, 108, 108, 32, 49, 10, 101, 120, 105, 116, 10]⟩ : ByteArray)⟩ : S41), (⟨y674, (⟨#[109, 97, 112, 32, 114, 50, 44, 32, 48, 10]⟩ : ByteArray)⟩ : S41), (⟨([] : List (S37)), (⟨#[]⟩ : ByteArray)⟩ : S41)] : List (S41)) : List (S41))).bind fun y677 => (stockadelaw03_AsmKnown.l0 k y677 (y677.length : Int) 0)) = some r := by first | (rw [hy674]; with_reducible exact H) | (have H2_ := (Option.bind_some _ _).symm.trans H; rw [hy674]; with_reducible exact H2_) | (have H2_ := (Option.bind_some _ _).symm.trans H; with_reducible exact H2_) | with_reducible exact H | (rw [hy674]; exact H) | exact H
 have Ny674 := Aside0.mk hy674
 clear hy674
 obtain ⟨y677, hy677⟩ : ∃ y_ : List (S41), y_ = (([(⟨y659, (⟨#[97, 100, 100, 51, 50, 32, 114, 57, 44, 32, 114, 49, 48, 10, 110, 101, 103, 51, 50, 32, 114, 50, 10]⟩ : ByteArray)⟩ : S41), (⟨y662, (⟨#[115, 119, 97, 112, 49, 54, 32, 114, 51, 10]⟩ : ByteArray)⟩ : S41), (⟨y665, (⟨#[112, 117, 116, 54, 52, 32, 114, 49, 48, 43, 48, 44, 32, 55, 10]⟩ : ByteArray)⟩ : S41), (⟨y668, (⟨#[106, 103, 116, 51, 50, 32, 114, 49, 44, 32, 114, 50, 44, 32, 45, 49, 10]⟩ : ByteArray)⟩ : S41), (⟨y671, (⟨#[103, 111, 116, 111, 32, 43, 50, 10, 99, 97, 108, 108, 32, 49, 10, 101, 120, 105, 116, 10]⟩ : ByteArray)⟩ : S41), (⟨y674, (⟨#[109, 97, 112, 32, 114, 50, 44, 32, 48, 10]⟩ : ByteArray)⟩ : S41), (⟨([] : List (S37)), (⟨#[]⟩ : ByteArray)⟩ : S41)] : List (S41))) := ⟨_, rfl⟩
 replace H : (stockadelaw03_AsmKnown.l0 k y677 (y677.length : Int) 0) = some r := by first | (rw [hy677]; with_reducible exact H) | (have H2_ := (Option.bind_some _ _).symm.trans H; rw [hy677]; with_reducible exact H2_) | (have H2_ := (Option.bind_some _ _).symm.trans H; with_reducible exact H2_) | with_reducible exact H | (rw [hy677]; exact H) | exact H
 have Ny677 := Aside0.mk hy677
 clear hy677
 have H' := Aside0.mk H
 clear H
 go_enter Tryd.func7, Tryd.ntmps7
 go_wp2_with (first | ((with_reducible refine gate_dst (N := 34) rfl ?_); (try (refine gate_guard (by rfl) ?_; dsimp only)); refine Kd.R_lit k37 _ 37 ?hg (N := 34) ?hd (xs := ([(⟨12, 9, 10, 0, 0⟩ : S37), (⟨132, 2, 0, 0, 0⟩ : S37)] : List (S37))) (inner := [.int .u8 12, .int .u8 9, .int .u8 10, .int .i16 0, .int .i32 0, .int .u8 132, .int .u8 2, .int .u8 0, .int .i16 0, .int .i32 0]) (ok := fun _ => True) (okp := fun _ => True) ?hr ?hp (fun _ hk => hk) trivial (Below.refl _ _) (Nat.le_refl _) (by simp) ?_; (case hd => rfl); (case hg => rfl); (case hr => first | (go_simp; done) | (go_simp; rfl)); (case hp => exact (Reps.c5 (show Kd.M k37 _ _ _ (⟨12, 9, 10, 0, 0⟩ : S37) [.int .u8 12, .int .u8 9, .int .u8 10, .int .i16 0, .int .i32 0] from (k37_mkM _ _ _ (⟨12, 9, 10, 0, 0⟩ : S37) )) (Reps.c5 (show Kd.M k37 _ _ _ (⟨132, 2, 0, 0, 0⟩ : S37) [.int .u8 132, .int .u8 2, .int .u8 0, .int .i16 0, .int .i32 0] from (k37_mkM _ _ _ (⟨132, 2, 0, 0, 0⟩ : S37) )) (Reps.none _ _)))); intro v660 w1 ho2 hb hg_ hnew_; clear hg_ hnew_; (first | rw [← Ny659.out] at ho2 | (simp only [Int.reduceToNat] at ho2; rw [← Ny659.out] at ho2)); have HO661 := Aside0.mk (Kd.R_lower ho2 (below_size b_now)); replace HB := sh_b (w := w) hb; clear hb ho2; obtain ⟨Ao3, co3, eo3⟩ := Kd.R_slice HO661.out; subst eo3) | ((with_reducible refine gate_dst (N := 37) rfl ?_); (try (refine gate_guard (by rfl) ?_; dsimp only)); refine Kd.R_lit k37 _ 37 ?hg (N := 37) ?hd (xs := ([(⟨215, 3, 0, 0, 16⟩ : S37)] : List (S37))) (inner := [.int .u8 215, .int .u8 3, .int .u8 0, .int .i16 0, .int .i32 16]) (ok := fun _ => True) (okp := fun _ => True) ?hr ?hp (fun _ hk => hk) trivial (Below.refl _ _) (Nat.le_refl _) (by simp) ?_; (case hd => rfl); (case hg => rfl); (case hr => first | (go_simp; done) | (go_simp; rfl)); (case hp => exact (Reps.c5 (show Kd.M k37 _ _ _ (⟨215, 3, 0, 0, 16⟩ : S37) [.int .u8 215, .int .u8 3, .int .u8 0, .int .i16 0, .int .i32 16] from (k37_mkM _ _ _ (⟨215, 3, 0, 0, 16⟩ : S37) )) (Reps.none _ _))); intro v663 w4 ho5 hb hg_ hnew_; clear hg_ hnew_; (first | rw [← Ny662.out] at ho5 | (simp only [Int.reduceToNat] at ho5; rw [← Ny662.out] at ho5)); have HO664 := Aside0.mk (Kd.R_lower (Kd.R_new' ho5 (Kd.R_lt (by (with_reducible repeat (first | apply Kd.R_alloc | apply Kd.R_drewN | apply Kd.R_drew)); exact HO661.out))) (below_size b_now)); replace HO661 := Aside0.mk (Kd.R_elder' (by (with_reducible repeat (first | apply Kd.R_alloc | apply Kd.R_drewN | apply Kd.R_drew)); exact HO661.out) (Kd.R_base ho5) hb); replace HB := sh_b (w := w) hb; clear hb ho5; obtain ⟨Ao6, co6, eo6⟩ := Kd.R_slice HO664.out; subst eo6) | ((with_reducible refine gate_dst (N := 40) rfl ?_); (try (refine gate_guard (by rfl) ?_; dsimp only)); refine Kd.R_lit k37 _ 37 ?hg (N := 40) ?hd (xs := ([(⟨122, 10, 0, 0, 7⟩ : S37)] : List (S37))) (inner := [.int .u8 122, .int .u8 10, .int .u8 0, .int .i16 0, .int .i32 7]) (ok := fun _ => True) (okp := fun _ => True) ?hr ?hp (fun _ hk => hk) trivial (Below.refl _ _) (Nat.le_refl _) (by simp) ?_; (case hd => rfl); (case hg => rfl); (case hr => first | (go_simp; done) | (go_simp; rfl)); (case hp => exact (Reps.c5 (show Kd.M k37 _ _ _ (⟨122, 10, 0, 0, 7⟩ : S37) [.int .u8 122, .int .u8 10, .int .u8 0, .int .i16 0, .int .i32 7] from (k37_mkM _ _ _ (⟨122, 10, 0, 0, 7⟩ : S37) )) (Reps.none _ _))); intro v666 w7 ho8 hb hg_ hnew_; clear hg_ hnew_; (first | rw [← Ny665.out] at ho8 | (simp only [Int.reduceToNat] at ho8; rw [← Ny665.out] at ho8)); have HO667 := Aside0.mk (Kd.R_lower (Kd.R_new' (Kd.R_new' ho8 (Kd.R_lt (by (with_reducible repeat (first | apply Kd.R_alloc | apply Kd.R_drewN | apply Kd.R_drew)); exact HO661.out))) (Kd.R_lt (by (with_reducible repeat (first | apply Kd.R_alloc | apply Kd.R_drewN | apply Kd.R_drew)); exact HO664.out))) (below_size b_now)); replace HO661 := Aside0.mk (Kd.R_elder' (by (with_reducible repeat (first | apply Kd.R_alloc | apply Kd.R_drewN | apply Kd.R_drew)); exact HO661.out) (Kd.R_base ho8) hb); replace HO664 := Aside0.mk (Kd.R_elder' (by (with_reducible repeat (first | apply Kd.R_alloc | apply Kd.R_drewN | apply Kd.R_drew)); exact HO664.out) (Kd.R_base ho8) hb); replace HB := sh_b (w := w) hb; clear hb ho8; obtain ⟨Ao9, co9, eo9⟩ := Kd.R_slice HO667.out; subst eo9) | ((with_reducible refine gate_dst (N := 43) rfl ?_); (try (refine gate_guard (by rfl) ?_; dsimp only)); refine Kd.R_lit k37 _ 37 ?hg (N := 43) ?hd (xs := ([(⟨46, 1, 2, (-1), 0⟩ : S37)] : List (S37))) (inner := [.int .u8 46, .int .u8 1, .int .u8 2, .int .i16 (-1), .int .i32 0]) (ok := fun _ => True) (okp := fun _ => True) ?hr ?hp (fun _ hk => hk) trivial (Below.refl _ _) (Nat.le_refl _) (by simp) ?_; (case hd => rfl); (case hg => rfl); (case hr => first | (go_simp; done) | (go_simp; rfl)); (case hp => exact (Reps.c5 (show Kd.M k37 _ _ _ (⟨46, 1, 2, (-1), 0⟩ : S37) [.int .u8 46, .int .u8 1, .int .u8 2, .int .i16 (-1), .int .i32 0] from (k37_mkM _ _ _ (⟨46, 1, 2, (-1), 0⟩ : S37) )) (Reps.none _ _))); intro v669 w10 ho11 hb hg_ hnew_; clear hg_ hnew_; (first | rw [← Ny668.out] at ho11 | (simp only [Int.reduceToNat] at ho11; rw [← Ny668.out] at ho11)); have HO670 := Aside0.mk (Kd.R_lower (Kd.R_new' (Kd.R_new' (Kd.R_new' ho11 (Kd.R_lt (by (with_reducible repeat (first | apply Kd.R_alloc | apply Kd.R_drewN | apply Kd.R_drew)); exact HO661.out))) (Kd.R_lt (by (with_reducible repeat (first | apply Kd.R_alloc | apply Kd.R_drewN | apply Kd.R_drew)); exact HO664.out))) (Kd.R_lt (by (with_reducible repeat (first | apply Kd.R_alloc | apply Kd.R_drewN | apply Kd.R_drew)); exact HO667.out))) (below_size b_now)); replace HO661 := Aside0.mk (Kd.R_elder' (by (with_reducible repeat (first | apply Kd.R_alloc | apply Kd.R_drewN | apply Kd.R_drew)); exact HO661.out) (Kd.R_base ho11) hb); replace HO664 := Aside0.mk (Kd.R_elder' (by (with_reducible repeat (first | apply Kd.R_alloc | apply Kd.R_drewN | apply Kd.R_drew)); exact HO664.out) (Kd.R_base ho11) hb); replace HO667 := Aside0.mk (Kd.R_elder' (by (with_reducible repeat (first | apply Kd.R_alloc | apply Kd.R_drewN | apply Kd.R_drew)); exact HO667.out) (Kd.R_base ho11) hb); replace HB := sh_b (w := w) hb; clear hb ho11; obtain ⟨Ao12, co12, eo12⟩ := Kd.R_slice HO670.out; subst eo12) | ((with_reducible refine gate_dst (N := 48) rfl ?_); (try (refine gate_guard (by rfl) ?_; dsimp only)); refine Kd.R_lit k37 _ 37 ?hg (N := 48) ?hd (xs := ([(⟨5, 0, 0, 2, 0⟩ : S37), (⟨133, 0, 0, 0, 1⟩ : S37), (⟨149, 0, 0, 0, 0⟩ : S37)] : List (S37))) (inner := [.int .u8 5, .int .u8 0, .int .u8 0, .int .i16 2, .int .i32 0, .int .u8 133, .int .u8 0, .int .u8 0, .int .i16 0, .int .i32 1, .int .u8 149, .int .u8 0, .int .u8 0, .int .i16 0, .int .i32 0]) (ok := fun _ => True) (okp := fun _ => True) ?hr ?hp (fun _ hk => hk) trivial (Below.refl _ _) (Nat.le_refl _) (by simp) ?_; (case hd => rfl); (case hg => rfl); (case hr => first | (go_simp; done) | (go_simp; rfl)); (case hp => exact (Reps.c5 (show Kd.M k37 _ _ _ (⟨5, 0, 0, 2, 0⟩ : S37) [.int .u8 5, .int .u8 0, .int .u8 0, .int .i16 2, .int .i32 0] from (k37_mkM _ _ _ (⟨5, 0, 0, 2, 0⟩ : S37) )) (Reps.c5 (show Kd.M k37 _ _ _ (⟨133, 0, 0, 0, 1⟩ : S37) [.int .u8 133, .int .u8 0, .int .u8 0, .int .i16 0, .int .i32 1] from (k37_mkM _ _ _ (⟨133, 0, 0, 0, 1⟩ : S37) )) (Reps.c5 (show Kd.M k37 _ _ _ (⟨149, 0, 0, 0, 0⟩ : S37) [.int .u8 149, .int .u8 0, .int .u8 0, .int .i16 0, .int .i32 0] from (k37_mkM _ _ _ (⟨149, 0, 0, 0, 0⟩ : S37) )) (Reps.none _ _))))); intro v672 w13 ho14 hb hg_ hnew_; clear hg_ hnew_; (first | rw [← Ny671.out] at ho14 | (simp only [Int.reduceToNat] at ho14; rw [← Ny671.out] at ho14)); have HO673 := Aside0.mk (Kd.R_lower (Kd.R_new' (Kd.R_new' (Kd.R_new' (Kd.R_new' ho14 (Kd.R_lt (by (with_reducible repeat (first | apply Kd.R_alloc | apply Kd.R_drewN | apply Kd.R_drew)); exact HO661.out))) (Kd.R_lt (by (with_reducible repeat (first | apply Kd.R_alloc | apply Kd.R_drewN | apply Kd.R_drew)); exact HO664.out))) (Kd.R_lt (by (with_reducible repeat (first | apply Kd.R_alloc | apply Kd.R_drewN | apply Kd.R_drew)); exact HO667.out))) (Kd.R_lt (by (with_reducible repeat (first | apply Kd.R_alloc | apply Kd.R_drewN | apply Kd.R_drew)); exact HO670.out))) (below_size b_now)); replace HO661 := Aside0.mk (Kd.R_elder' (by (with_reducible repeat (first | apply Kd.R_alloc | apply Kd.R_drewN | apply Kd.R_drew)); exact HO661.out) (Kd.R_base ho14) hb); replace HO664 := Aside0.mk (Kd.R_elder' (by (with_reducible repeat (first | apply Kd.R_alloc | apply Kd.R_drewN | apply Kd.R_drew)); exact HO664.out) (Kd.R_base ho14) hb); replace HO667 := Aside0.mk (Kd.R_elder' (by (with_reducible repeat (first | apply Kd.R_alloc | apply Kd.R_drewN | apply Kd.R_drew)); exact HO667.out) (Kd.R_base ho14) hb); replace HO670 := Aside0.mk (Kd.R_elder' (by (with_reducible repeat (first | apply Kd.R_alloc | apply Kd.R_drewN | apply Kd.R_drew)); exact HO670.out) (Kd.R_base ho14) hb); replace HB := sh_b (w := w) hb; clear hb ho14; obtain ⟨Ao15, co15, eo15⟩ := Kd.R_slice HO673.out; subst eo15) | ((with_reducible refine gate_dst (N := 52) rfl ?_); (try (refine gate_guard (by rfl) ?_; dsimp only)); refine Kd.R_lit k37 _ 37 ?hg (N := 52) ?hd (xs := ([(⟨24, 2, 1, 0, 0⟩ : S37), (⟨0, 0, 0, 0, 0⟩ : S37)] : List (S37))) (inner := [.int .u8 24, .int .u8 2, .int .u8 1, .int .i16 0, .int .i32 0, .int .u8 0, .int .u8 0, .int .u8 0, .int .i16 0, .int .i32 0]) (ok := fun _ => True) (okp := fun _ => True) ?hr ?hp (fun _ hk => hk) trivial (Below.refl _ _) (Nat.le_refl _) (by simp) ?_; (case hd => rfl); (case hg => rfl); (case hr => first | (go_simp; done) | (go_simp; rfl)); (case hp => exact (Reps.c5 (show Kd.M k37 _ _ _ (⟨24, 2, 1, 0, 0⟩ : S37) [.int .u8 24, .int .u8 2, .int .u8 1, .int .i16 0, .int .i32 0] from (k37_mkM _ _ _ (⟨24, 2, 1, 0, 0⟩ : S37) )) (Reps.c5 (show Kd.M k37 _ _ _ (⟨0, 0, 0, 0, 0⟩ : S37) [.int .u8 0, .int .u8 0, .int .u8 0, .int .i16 0, .int .i32 0] from (k37_mkM _ _ _ (⟨0, 0, 0, 0, 0⟩ : S37) )) (Reps.none _ _)))); intro v675 w16 ho17 hb hg_ hnew_; clear hg_ hnew_; (first | rw [← Ny674.out] at ho17 | (simp only [Int.reduceToNat] at ho17; rw [← Ny674.out] at ho17)); have HO676 := Aside0.mk (Kd.R_lower (Kd.R_new' (Kd.R_new' (Kd.R_new' (Kd.R_new' (Kd.R_new' ho17 (Kd.R_lt (by (with_reducible repeat (first | apply Kd.R_alloc | apply Kd.R_drewN | apply Kd.R_drew)); exact HO661.out))) (Kd.R_lt (by (with_reducible repeat (first | apply Kd.R_alloc | apply Kd.R_drewN | apply Kd.R_drew)); exact HO664.out))) (Kd.R_lt (by (with_reducible repeat (first | apply Kd.R_alloc | apply Kd.R_drewN | apply Kd.R_drew)); exact HO667.out))) (Kd.R_lt (by (with_reducible repeat (first | apply Kd.R_alloc | apply Kd.R_drewN | apply Kd.R_drew)); exact HO670.out))) (Kd.R_lt (by (with_reducible repeat (first | apply Kd.R_alloc | apply Kd.R_drewN | apply Kd.R_drew)); exact HO673.out))) (below_size b_now)); replace HO661 := Aside0.mk (Kd.R_elder' (by (with_reducible repeat (first | apply Kd.R_alloc | apply Kd.R_drewN | apply Kd.R_drew)); exact HO661.out) (Kd.R_base ho17) hb); replace HO664 := Aside0.mk (Kd.R_elder' (by (with_reducible repeat (first | apply Kd.R_alloc | apply Kd.R_drewN | apply Kd.R_drew)); exact HO664.out) (Kd.R_base ho17) hb); replace HO667 := Aside0.mk (Kd.R_elder' (by (with_reducible repeat (first | apply Kd.R_alloc | apply Kd.R_drewN | apply Kd.R_drew)); exact HO667.out) (Kd.R_base ho17) hb); replace HO670 := Aside0.mk (Kd.R_elder' (by (with_reducible repeat (first | apply Kd.R_alloc | apply Kd.R_drewN | apply Kd.R_drew)); exact HO670.out) (Kd.R_base ho17) hb); replace HO673 := Aside0.mk (Kd.R_elder' (by (with_reducible repeat (first | apply Kd.R_alloc | apply Kd.R_drewN | apply Kd.R_drew)); exact HO673.out) (Kd.R_base ho17) hb); replace HB := sh_b (w := w) hb; clear hb ho17; obtain ⟨Ao18, co18, eo18⟩ := Kd.R_slice HO676.out; subst eo18) | ((with_reducible refine gate_dst (N := 55) rfl ?_); (try (refine gate_guard (by rfl) ?_; dsimp only)); refine Kd.N_lit k41 _ 41 ?hg (N' := 55) ?hd (xs := ([(⟨y659, (⟨#[97, 100, 100, 51, 50, 32, 114, 57, 44, 32, 114, 49, 48, 10, 110, 101, 103, 51, 50, 32, 114, 50, 10]⟩ : ByteArray)⟩ : S41), (⟨y662, (⟨#[115, 119, 97, 112, 49, 54, 32, 114, 51, 10]⟩ : ByteArray)⟩ : S41), (⟨y665, (⟨#[112, 117, 116, 54, 52, 32, 114, 49, 48, 43, 48, 44, 32, 55, 10]⟩ : ByteArray)⟩ : S41), (⟨y668, (⟨#[106, 103, 116, 51, 50, 32, 114, 49, 44, 32, 114, 50, 44, 32, 45, 49, 10]⟩ : ByteArray)⟩ : S41), (⟨y671, (⟨#[103, 111, 116, 111, 32, 43, 50, 10, 99, 97, 108, 108, 32, 49, 10, 101, 120, 105, 116, 10]⟩ : ByteArray)⟩ : S41), (⟨y674, (⟨#[109, 97, 112, 32, 114, 50, 44, 32, 48, 10]⟩ : ByteArray)⟩ : S41), (⟨([] : List (S37)), (⟨#[]⟩ : ByteArray)⟩ : S41)] : List (S41))) (inner := [.slice Ao3 y659.length co3, .string (⟨#[97, 100, 100, 51, 50, 32, 114, 57, 44, 32, 114, 49, 48, 10, 110, 101, 103, 51, 50, 32, 114, 50, 10]⟩ : ByteArray), .slice Ao6 y662.length co6, .string (⟨#[115, 119, 97, 112, 49, 54, 32, 114, 51, 10]⟩ : ByteArray), .slice Ao9 y665.length co9, .string (⟨#[112, 117, 116, 54, 52, 32, 114, 49, 48, 43, 48, 44, 32, 55, 10]⟩ : ByteArray), .slice Ao12 y668.length co12, .string (⟨#[106, 103, 116, 51, 50, 32, 114, 49, 44, 32, 114, 50, 44, 32, 45, 49, 10]⟩ : ByteArray), .slice Ao15 y671.length co15, .string (⟨#[103, 111, 116, 111, 32, 43, 50, 10, 99, 97, 108, 108, 32, 49, 10, 101, 120, 105, 116, 10]⟩ : ByteArray), .slice Ao18 y674.length co18, .string (⟨#[109, 97, 112, 32, 114, 50, 44, 32, 48, 10]⟩ : ByteArray), .slice none 0 0, .string (⟨#[]⟩ : ByteArray)]) (ok := (fun _ => True)) (okp := (fun _ => True)) ?hr ?hp (fun _ hk => hk) ((show ∀ k_, w16.heap.size ≤ k_ → (fun _ => True) k_ from fun k_ hk => trivial) _ (Nat.le_refl _)) (Below.refl _ _) (Nat.le_refl _) (by simp) ?_; (case hd => rfl); (case hg => rfl); (case hr => first | (go_simp; done) | (go_simp; rfl)); (case hp => exact (Reps.c2 (show Kd.FK k41 _ _ (⟨y659, (⟨#[97, 100, 100, 51, 50, 32, 114, 57, 44, 32, 114, 49, 48, 10, 110, 101, 103, 51, 50, 32, 114, 50, 10]⟩ : ByteArray)⟩ : S41) [.slice Ao3 y659.length co3, .string (⟨#[97, 100, 100, 51, 50, 32, 114, 57, 44, 32, 114, 49, 48, 10, 110, 101, 103, 51, 50, 32, 114, 50, 10]⟩ : ByteArray)] from (k41_mkF _ _ (⟨y659, (⟨#[97, 100, 100, 51, 50, 32, 114, 57, 44, 32, 114, 49, 48, 10, 110, 101, 103, 51, 50, 32, 114, 50, 10]⟩ : ByteArray)⟩ : S41) (Kd.R_reads' (Kd.R_mono (ok' := (fun _ => True)) (HO661.out) (fun k_ hk => trivial))).2.1 (Kd.R_F (Kd.R_mono (ok' := (fun _ => True)) (HO661.out) (fun k_ hk => trivial))))) (Reps.c2 (show Kd.FK k41 _ _ (⟨y662, (⟨#[115, 119, 97, 112, 49, 54, 32, 114, 51, 10]⟩ : ByteArray)⟩ : S41) [.slice Ao6 y662.length co6, .string (⟨#[115, 119, 97, 112, 49, 54, 32, 114, 51, 10]⟩ : ByteArray)] from (k41_mkF _ _ (⟨y662, (⟨#[115, 119, 97, 112, 49, 54, 32, 114, 51, 10]⟩ : ByteArray)⟩ : S41) (Kd.R_reads' (Kd.R_mono (ok' := (fun _ => True)) (HO664.out) (fun k_ hk => trivial))).2.1 (Kd.R_F (Kd.R_mono (ok' := (fun _ => True)) (HO664.out) (fun k_ hk => trivial))))) (Reps.c2 (show Kd.FK k41 _ _ (⟨y665, (⟨#[112, 117, 116, 54, 52, 32, 114, 49, 48, 43, 48, 44, 32, 55, 10]⟩ : ByteArray)⟩ : S41) [.slice Ao9 y665.length co9, .string (⟨#[112, 117, 116, 54, 52, 32, 114, 49, 48, 43, 48, 44, 32, 55, 10]⟩ : ByteArray)] from (k41_mkF _ _ (⟨y665, (⟨#[112, 117, 116, 54, 52, 32, 114, 49, 48, 43, 48, 44, 32, 55, 10]⟩ : ByteArray)⟩ : S41) (Kd.R_reads' (Kd.R_mono (ok' := (fun _ => True)) (HO667.out) (fun k_ hk => trivial))).2.1 (Kd.R_F (Kd.R_mono (ok' := (fun _ => True)) (HO667.out) (fun k_ hk => trivial))))) (Reps.c2 (show Kd.FK k41 _ _ (⟨y668, (⟨#[106, 103, 116, 51, 50, 32, 114, 49, 44, 32, 114, 50, 44, 32, 45, 49, 10]⟩ : ByteArray)⟩ : S41) [.slice Ao12 y668.length co12, .string (⟨#[106, 103, 116, 51, 50, 32, 114, 49, 44, 32, 114, 50, 44, 32, 45, 49, 10]⟩ : ByteArray)] from (k41_mkF _ _ (⟨y668, (⟨#[106, 103, 116, 51, 50, 32, 114, 49, 44, 32, 114, 50, 44, 32, 45, 49, 10]⟩ : ByteArray)⟩ : S41) (Kd.R_reads' (Kd.R_mono (ok' := (fun _ => True)) (HO670.out) (fun k_ hk => trivial))).2.1 (Kd.R_F (Kd.R_mono (ok' := (fun _ => True)) (HO670.out) (fun k_ hk => trivial))))) (Reps.c2 (show Kd.FK k41 _ _ (⟨y671, (⟨#[103, 111, 116, 111, 32, 43, 50, 10, 99, 97, 108, 108, 32, 49, 10, 101, 120, 105, 116, 10]⟩ : ByteArray)⟩ : S41) [.slice Ao15 y671.length co15, .string (⟨#[103, 111, 116, 111, 32, 43, 50, 10, 99, 97, 108, 108, 32, 49, 10, 101, 120, 105, 116, 10]⟩ : ByteArray)] from (k41_mkF _ _ (⟨y671, (⟨#[103, 111, 116, 111, 32, 43, 50, 10, 99, 97, 108, 108, 32, 49, 10, 101, 120, 105, 116, 10]⟩ : ByteArray)⟩ : S41) (Kd.R_reads' (Kd.R_mono (ok' := (fun _ => True)) (HO673.out) (fun k_ hk => trivial))).2.1 (Kd.R_F (Kd.R_mono (ok' := (fun _ => True)) (HO673.out) (fun k_ hk => trivial))))) (Reps.c2 (show Kd.FK k41 _ _ (⟨y674, (⟨#[109, 97, 112, 32, 114, 50, 44, 32, 48, 10]⟩ : ByteArray)⟩ : S41) [.slice Ao18 y674.length co18, .string (⟨#[109, 97, 112, 32, 114, 50, 44, 32, 48, 10]⟩ : ByteArray)] from (k41_mkF _ _ (⟨y674, (⟨#[109, 97, 112, 32, 114, 50, 44, 32, 48, 10]⟩ : ByteArray)⟩ : S41) (Kd.R_reads' (Kd.R_mono (ok' := (fun _ => True)) (HO676.out) (fun k_ hk => trivial))).2.1 (Kd.R_F (Kd.R_mono (ok' := (fun _ => True)) (HO676.out) (fun k_ hk => trivial))))) (Reps.c2 (show Kd.FK k41 _ _ (⟨([] : List (S37)), (⟨#[]⟩ : ByteArray)⟩ : S41) [.slice none 0 0, .string (⟨#[]⟩ : ByteArray)] from (k41_mkF _ _ (⟨([] : List (S37)), (⟨#[]⟩ : ByteArray)⟩ : S41) (Nat.le_refl _) (Kd.F_nil _ _ _))) (Reps.none _ _))))))))); intro v678 w19 ho20 hb hg_ hnew_; clear hg_ hnew_; (first | rw [← Ny677.out] at ho20 | (simp only [Int.reduceToNat] at ho20; rw [← Ny677.out] at ho20)); have n0_ := Aside0.mk (Kd.N_lower ho20 (below_size b_now)); have n1_ := Aside0.mk (below_step b_now hb); clear HB; clear HO661; clear HO664; clear HO667; clear HO670; clear HO673; clear HO676; have HO679 := n0_; have HB := n1_; clear n0_ n1_; clear hb ho20; obtain ⟨Ao21, co21, eo21⟩ := Kd.N_slice HO679.out; subst eo21))
 go_loopg [57] k (fun kq v57 w' => ∃ (x57_1 : Int), v57 = .int .i64 x57_1 ∧ Aside0 (stockadelaw03_AsmKnown.l0 kq y677 (y677.length : Int) x57_1 = some r) ∧ Aside0 (kq ≤ k) ∧ Aside0 (Kd.N k41 41 w' w.heap.size (fun _ => True) (.slice Ao21 y677.length co21) y677) ∧ Aside0 (Below w.heap.size w w'))
 case atStart => exact ⟨(0), eq_now, H', ⟨Nat.le_refl _⟩, ⟨by (with_reducible repeat (first | apply Kd.N_alloc | apply Kd.N_drewN | apply Kd.N_drew)); exact HO679.out⟩, ⟨b_now⟩⟩
 case round =>
  clear H'
  obtain ⟨x57_1, rfl, HA, HK1, HO_55, HB⟩ := hrel
  cases gk with
  | zero => exact absurd HA.out (by simp [stockadelaw03_AsmKnown.l0])
  | succ k1 =>
   have H := HA.out
   clear HA
   simp only [stockadelaw03_AsmKnown.l0] at H
   by_cases c22 : x57_1 < (y677.length : Int)
   ·rw [if_pos c22] at H
    have c22b0 : decide (x57_1 < (y677.length : Int)) = true := decide_eq_true c22
    clear c22
    by_cases c23 : 0 ≤ x57_1
    ·rw [if_pos c23] at H
     have c23b0 : decide (0 ≤ x57_1) = true := decide_eq_true c23
     clear c23
     by_cases c24 : x57_1 < (y677.length : Int)
     ·rw [if_pos c24] at H
      have c24b0 : decide (x57_1 < (y677.length : Int)) = true := decide_eq_true c24
      clear c24
      obtain ⟨⟨t682, t683⟩, A25, H⟩ := bs_ H; try dsimp only at H
      obtain ⟨⟨t684, t685, t686⟩, A26, H⟩ := bs_ H; try dsimp only at H
      by_cases c27 : t682.toList = ((rd_T41 y677 x57_1).f1).toList
      ·rw [if_pos c27] at H
       obtain ⟨c27b0, c27b1⟩ := eqT c27
       clear c27
       by_cases c28 : t683 = 0
       ·rw [if_pos c28] at H
        obtain ⟨c28b0, c28b1⟩ := eqT c28
        clear c28
        obtain ⟨t689, A29, H⟩ := bs_ H; try dsimp only at H
        by_cases c30 : t689 = true
        ·subst c30
         replace H := sh_t H
         by_cases c31 : t685 = 0
         ·rw [if_pos c31] at H
          obtain ⟨c31b0, c31b1⟩ := eqT c31
          clear c31
          by_cases c32 : t686 = 0
          ·rw [if_pos c32] at H
           obtain ⟨c32b0, c32b1⟩ := eqT c32
           clear c32
           have H' := Aside0.mk H
           clear H
           have p680 : 0 ≤ (x57_1 : Int) := od_
           have q680 : x57_1 < (y677.length : Int) := od_
           obtain ⟨ad680, A680_0, c680_0, e680, hx680_0, hx680_1, hl680_0, hi680_0⟩ := at_T41 (Kd.N_reads' HO_55.out).2.2 x57_1 p680 q680
           cases e680
           obtain ⟨ce680, hce680, hMe680, hcc680⟩ := Kd.N_get HO_55.out z41 x57_1 p680 (by first | exact q680 | exact od_ | (have e_ := (Kd.N_reads' HO_55.out).1; omega))
           obtain ⟨ua680_0, uc680_0, rfl, ul680_0, ge680_0⟩ := k41_openF hMe680
           have hv680_0 := hcc680 0 _ rfl
           rw [Nat.add_zero] at hv680_0
           replace hv680_0 := Option.some.inj (hv680_0.symm.trans hx680_0)
           injection hv680_0 with hva_ hvn_ hvc_
           rw [hva_] at ge680_0
           rw [hvc_] at ul680_0
           have HL680_0 := Aside0.mk (show Kd.V k37 37 _ w.heap.size _ _ ((rd_T41 y677 x57_1).f0) from Kd.V_mk ul680_0 ge680_0)
           clear hva_ hvn_ hvc_ ge680_0 ul680_0
           clear hcc680 hce680
           have HR680_0 := Aside0.mk hi680_0
           have HC680_0 := Aside0.mk hl680_0
           clear hi680_0 hl680_0
           replace p680 := eq_true p680
           replace q680 := eq_true q680
           go_wp2_with (first | ((with_reducible refine gate_dst (N := 2) rfl ?_); (try (refine gate_guard (by rfl) ?_; dsimp only)); refine box_event ?hg (N := 2) ?hd (cs := #[.slice none 0 0, .string (⟨#[]⟩ : ByteArray)]) (t := 41) ?hr ?_; (case hd => rfl); (case hg => rfl); (case hr => first | (go_simp; done) | (go_simp; rfl)); intro gb681 hg w33 hbox hb; have GE681 := sh_z (w := w) hg; replace HO_55 := Aside0.mk (Kd.N_below (Kd.N_elderB (by (with_reducible repeat (first | apply Kd.N_alloc | apply Kd.N_drewN | apply Kd.N_drew)); exact HO_55.out) gb681 (Nat.le_of_eq hg.symm)) hb); replace HL680_0 := Aside0.mk (Kd.V_below (Kd.V_elderB (by (with_reducible repeat (first | apply Kd.V_alloc | apply Kd.V_drewN | apply Kd.V_drew)); exact HL680_0.out) gb681 (Nat.le_of_eq hg.symm)) hb); replace HR680_0 := Aside0.mk (Kd.C_below (by repeat (first | (with_reducible exact HR680_0.out) | (with_reducible refine Kd.C_alloc ?_ _) | (with_reducible refine Kd.C_drewN ?_ _) | (with_reducible refine Kd.C_drew ?_) | exact HR680_0.out)) hb); replace HB := sh_b (w := w) hb; have BK681 := Aside0.mk (hbox); clear hb hbox hg; have hcz34 := blk_all2 BK681.out) | ((with_reducible refine gate_callee (f := 9) rfl ?_); refine sh_call (some 64) Tryd.func9 #[.slice A680_0 ((rd_T41 y677 x57_1).f0).length c680_0] ?_; (with_reducible refine (asm_Print.calls k1 _ _ ((rd_T41 y677 x57_1).f0) t682 t683 _ ?side1 ?side2 ?side3 ?side4 ?side5 ?side6 A25.out).mono ?_); (case side1 => repeat (first | exact ((Kd.V_reads' (by (with_reducible repeat (first | apply Kd.V_alloc | apply Kd.V_drewN | apply Kd.V_drew)); exact (Kd.V_mono (Kd.V_far (p := ⟨gb681, 1, none⟩) (Kd.V_far (p := ⟨gb681, 0, none⟩) (Kd.V_mono HL680_0.out (fun k_ hk => (⟨hk, hk.2⟩ : _ ∧ k_ ≠ gb681))) (fun _ hk => hk.2) (.slice A680_0 ((rd_T41 y677 x57_1).f0).length c680_0)) (fun _ hk => hk.2) (.string ((rd_T41 y677 x57_1).f1))) (fun _ h_ => h_.1)))).2.2) | (with_reducible refine Kd.C_alloc ?_ _) | (with_reducible refine Kd.C_drewN ?_ _) | (with_reducible refine Kd.C_drew ?_))); (case side2 => exact HC680_0.out); (case side3 => exact Kd.C_below HRG0.out b_now); (case side4 => exact Kd.C_below HRG1.out b_now); (case side5 => exact Kd.C_below HRG2.out b_now); (case side6 => exact Kd.C_below HRG3.out b_now); rintro e w35 ⟨rfl, hb⟩; refine ⟨_, rfl, ?_⟩; have n0_ := Aside0.mk (Kd.N_below (by (with_reducible repeat (first | apply Kd.N_alloc | apply Kd.N_drewN | apply Kd.N_drew)); exact (Kd.N_mono (Kd.N_far (p := ⟨gb681, 1, none⟩) (Kd.N_far (p := ⟨gb681, 0, none⟩) (Kd.N_mono HO_55.out (fun k_ hk => (⟨hk, hk.2⟩ : _ ∧ k_ ≠ gb681))) (fun _ hk => hk.2) (.slice A680_0 ((rd_T41 y677 x57_1).f0).length c680_0)) (fun _ hk => hk.2) (.string ((rd_T41 y677 x57_1).f1))) (fun _ h_ => h_.1))) hb); have n1_ := Aside0.mk (Kd.V_below (by (with_reducible repeat (first | apply Kd.V_alloc | apply Kd.V_drewN | apply Kd.V_drew)); exact (Kd.V_mono (Kd.V_far (p := ⟨gb681, 1, none⟩) (Kd.V_far (p := ⟨gb681, 0, none⟩) (Kd.V_mono HL680_0.out (fun k_ hk => (⟨hk, hk.2⟩ : _ ∧ k_ ≠ gb681))) (fun _ hk => hk.2) (.slice A680_0 ((rd_T41 y677 x57_1).f0).length c680_0)) (fun _ hk => hk.2) (.string ((rd_T41 y677 x57_1).f1))) (fun _ h_ => h_.1))) hb); have n2_ := Aside0.mk (Kd.C_below ((Kd.V_reads' (by (with_reducible repeat (first | apply Kd.V_alloc | apply Kd.V_drewN | apply Kd.V_drew)); exact (Kd.V_mono (Kd.V_far (p := ⟨gb681, 1, none⟩) (Kd.V_far (p := ⟨gb681, 0, none⟩) (Kd.V_mono HL680_0.out (fun k_ hk => (⟨hk, hk.2⟩ : _ ∧ k_ ≠ gb681))) (fun _ hk => hk.2) (.slice A680_0 ((rd_T41 y677 x57_1).f0).length c680_0)) (fun _ hk => hk.2) (.string ((rd_T41 y677 x57_1).f1))) (fun _ h_ => h_.1)))).2.2) hb); have n3_ := Aside0.mk (blk_below (g := gb681) (o := .cells #[.slice A680_0 ((rd_T41 y677 x57_1).f0).length c680_0, .string ((rd_T41 y677 x57_1).f1)] 41 (0, 0)) (by (with_reducible repeat (first | refine blk_drewN ?_ _ | refine blk_drew ?_ | refine blk_alloc ?_ _)); refine blk_put (cs := #[.slice A680_0 ((rd_T41 y677 x57_1).f0).length c680_0, .string (⟨#[]⟩ : ByteArray)]) ?_ 1 _ rfl; (with_reducible repeat (first | refine blk_drewN ?_ _ | refine blk_drew ?_ | refine blk_alloc ?_ _)); refine blk_put (cs := #[.slice none 0 0, .string (⟨#[]⟩ : ByteArray)]) ?_ 0 _ rfl; (with_reducible repeat (first | refine blk_drewN ?_ _ | refine blk_drew ?_ | refine blk_alloc ?_ _)); exact BK681.out) hb); have n4_ := Aside0.mk (below_step b_now hb); clear HO_55; clear HL680_0; clear HR680_0; clear BK681; clear HB; have HO_55 := n0_; have HL680_0 := n1_; have HR680_0 := n2_; have BK681 := n3_; have HB := n4_; clear n0_ n1_ n2_ n3_ n4_; (try clear hb); (try clear hb2); (try clear hk); (try clear hi); have hcz36 := blk_all2 BK681.out) | ((with_reducible refine gate_callee (f := 12) rfl ?_); refine sh_call (some 70) Tryd.func12 #[.string ((rd_T41 y677 x57_1).f1)] ?_; (with_reducible refine (asm_Parse.calls k1 ((rd_T41 y677 x57_1).f1) t684 t685 t686 _ ?side1 ?side2 ?side3 ?side4 A26.out).mono ?_); (case side1 => repeat (first | exact (Kd.C_below HRG0.out HB.out) | (with_reducible refine Kd.C_alloc ?_ _) | (with_reducible refine Kd.C_drewN ?_ _) | (with_reducible refine Kd.C_drew ?_))); (case side2 => repeat (first | exact (Kd.C_below HRG1.out HB.out) | (with_reducible refine Kd.C_alloc ?_ _) | (with_reducible refine Kd.C_drewN ?_ _) | (with_reducible refine Kd.C_drew ?_))); (case side3 => repeat (first | exact (Kd.C_below HRG2.out HB.out) | (with_reducible refine Kd.C_alloc ?_ _) | (with_reducible refine Kd.C_drewN ?_ _) | (with_reducible refine Kd.C_drew ?_))); (case side4 => repeat (first | exact (Kd.C_below HRG3.out HB.out) | (with_reducible refine Kd.C_alloc ?_ _) | (with_reducible refine Kd.C_drewN ?_ _) | (with_reducible refine Kd.C_drew ?_))); rintro e w37 ⟨v687, rfl, ho0, hb⟩; refine ⟨_, rfl, ?_⟩; have HO688 := Aside0.mk (Kd.R_lower ho0 (below_size b_now)); replace HO_55 := Aside0.mk (Kd.N_elder' (by (with_reducible repeat (first | apply Kd.N_alloc | apply Kd.N_drewN | apply Kd.N_drew)); exact HO_55.out) (Kd.R_base ho0) hb); replace HL680_0 := Aside0.mk (Kd.V_elder' (by (with_reducible repeat (first | apply Kd.V_alloc | apply Kd.V_drewN | apply Kd.V_drew)); exact HL680_0.out) (Kd.R_base ho0) hb); replace HR680_0 := Aside0.mk (Kd.C_below (by repeat (first | (with_reducible exact HR680_0.out) | (with_reducible refine Kd.C_alloc ?_ _) | (with_reducible refine Kd.C_drewN ?_ _) | (with_reducible refine Kd.C_drew ?_) | exact HR680_0.out)) hb); replace BK681 := sh_k BK681 hb; replace HB := sh_b (w := w) hb; (try clear hb); (try clear hb2); (try clear hk); (try clear hi); (try clear ho0); have hcz38 := blk_all2 BK681.out; obtain ⟨Ao39, co39, eo39⟩ := Kd.R_slice HO688.out; subst eo39) | (go_at_call 11; (with_reducible refine (stockadelaw03_same.calls k1 _ _ t684 _ _ ((rd_T41 y677 x57_1).f0) true _ ?side1 ?side2 ?side3 ?side4 A29.out).mono ?_); (case side1 => repeat (first | exact (Kd.R_reads' HO688.out).2.2 | (with_reducible refine Kd.C_alloc ?_ _) | (with_reducible refine Kd.C_drewN ?_ _) | (with_reducible refine Kd.C_drew ?_))); (case side2 => exact (Kd.R_reads' HO688.out).2.1); (case side3 => repeat (first | exact (by repeat (first | (with_reducible exact HR680_0.out) | (with_reducible refine Kd.C_alloc ?_ _) | (with_reducible refine Kd.C_drewN ?_ _) | (with_reducible refine Kd.C_drew ?_) | exact HR680_0.out)) | (with_reducible refine Kd.C_alloc ?_ _) | (with_reducible refine Kd.C_drewN ?_ _) | (with_reducible refine Kd.C_drew ?_))); (case side4 => exact HC680_0.out); rintro e w' ⟨rfl, ⟨nd, rfl⟩⟩))
           go_roundg k1
           case measure => have := HK1.out; omega
           case rel => exact ⟨(wrap64 (x57_1 + 1)), eq_now, H', ⟨by have := HK1.out; omega⟩, ⟨by (with_reducible repeat (first | apply Kd.N_alloc | apply Kd.N_drewN | apply Kd.N_drew)); exact Kd.N_mono HO_55.out (fun _ hk => trivial)⟩, ⟨b_now⟩⟩
          ·rw [if_neg c32] at H
           obtain ⟨c32b0, c32b1⟩ := eqF c32
           obtain rfl := Option.some.inj H
           exact absurd HRT.out (by simp)
         ·rw [if_neg c31] at H
          obtain ⟨c31b0, c31b1⟩ := eqF c31
          obtain rfl := Option.some.inj H
          exact absurd HRT.out (by simp)
        ·replace c30 := Bool.eq_false_iff.mpr c30
         subst c30
         replace H := sh_f H
         obtain rfl := Option.some.inj H
         exact absurd HRT.out (by simp)
       ·rw [if_neg c28] at H
        obtain ⟨c28b0, c28b1⟩ := eqF c28
        obtain rfl := Option.some.inj H
        exact absurd HRT.out (by simp)
      ·rw [if_neg c27] at H
       obtain ⟨c27b0, c27b1⟩ := eqF c27
       obtain rfl := Option.some.inj H
       exact absurd HRT.out (by simp)
     ·rw [if_neg c24] at H
      exact absurd H (by simp)
    ·rw [if_neg c23] at H
     exact absurd H (by simp)
   ·rw [if_neg c22] at H
    have c22b0 : decide (x57_1 < (y677.length : Int)) = false := decide_eq_false c22
    clear c22
    obtain ⟨y690, hy690⟩ : ∃ y_ : List ByteArray, y_ = (([(⟨#[101, 120, 105, 116]⟩ : ByteArray), (⟨#[109, 111, 118, 54, 52, 32, 114, 49, 48, 44, 32, 49, 10]⟩ : ByteArray), (⟨#[103, 111, 116, 111, 32, 50, 10]⟩ : ByteArray), (⟨#[109, 111, 118, 54, 52, 32, 114, 49, 44, 53, 10]⟩ : ByteArray), (⟨#[109, 111, 118, 54, 52, 32, 114, 49, 44, 32, 48, 53, 10]⟩ : ByteArray), (⟨#[109, 111, 118, 54, 52, 32, 114, 49, 44, 32, 45, 48, 10]⟩ : ByteArray), (⟨#[109, 111, 118, 54, 52, 32, 114, 49, 49, 44, 32, 49, 10]⟩ : ByteArray), (⟨#[109, 111, 118, 49, 54, 32, 114, 49, 44, 32, 49, 10]⟩ : ByteArray), (⟨#[110, 101, 103, 54, 52, 32, 114, 49, 44, 32, 49, 10]⟩ : ByteArray), (⟨#[108, 111, 97, 100, 51, 50, 32, 114, 49, 44, 32, 114, 50, 10]⟩ : ByteArray), (⟨#[108, 111, 97, 100, 51, 50, 32, 114, 49, 44, 32, 114, 50, 45, 48, 10]⟩ : ByteArray), (⟨#[101, 120, 105, 116, 32, 10]⟩ : ByteArray), (⟨#[32, 101, 120, 105, 116, 10]⟩ : ByteArray), (⟨#[10]⟩ : ByteArray), (⟨#[99, 111, 110, 115, 116, 32, 114, 49, 44, 32, 49, 56, 52, 52, 54, 55, 52, 52, 48, 55, 51, 55, 48, 57, 53, 53, 49, 54, 49, 54, 10]⟩ : ByteArray), (⟨#[99, 97, 108, 108, 32, 50, 49, 52, 55, 52, 56, 51, 54, 52, 56, 10]⟩ : ByteArray), (⟨#[103, 111, 116, 111, 32, 43, 51, 50, 55, 54, 56, 10]⟩ : ByteArray), (⟨#[69, 120, 105, 116, 10]⟩ : ByteArray), (⟨#[101, 120, 105, 116, 13, 10]⟩ : ByteArray)] : List ByteArray)) := ⟨_, rfl⟩
    replace H : (stockadelaw03_AsmKnown.l1 k1 y690 (y690.length : Int) 0) = some r := by first | (rw [hy690]; with_reducible exact H) | (have H2_ := (Option.bind_some _ _).symm.trans H; rw [hy690]; with_reducible exact H2_) | (have H2_ := (Option.bind_some _ _).symm.trans H; with_reducible exact H2_) | with_reducible exact H | (rw [hy690]; exact H) | exact H
    have Ny690 := Aside0.mk hy690
    clear hy690
    have H' := Aside0.mk H
    clear H
    go_wp2_with (first | ((with_reducible refine gate_dst (N := 98) rfl ?_); (try (refine gate_guard (by rfl) ?_; dsimp only)); refine Kd.R_lit Kd.string _ 9 ?hg (N := 98) ?hd (xs := ([(⟨#[101, 120, 105, 116]⟩ : ByteArray), (⟨#[109, 111, 118, 54, 52, 32, 114, 49, 48, 44, 32, 49, 10]⟩ : ByteArray), (⟨#[103, 111, 116, 111, 32, 50, 10]⟩ : ByteArray), (⟨#[109, 111, 118, 54, 52, 32, 114, 49, 44, 53, 10]⟩ : ByteArray), (⟨#[109, 111, 118, 54, 52, 32, 114, 49, 44, 32, 48, 53, 10]⟩ : ByteArray), (⟨#[109, 111, 118, 54, 52, 32, 114, 49, 44, 32, 45, 48, 10]⟩ : ByteArray), (⟨#[109, 111, 118, 54, 52, 32, 114, 49, 49, 44, 32, 49, 10]⟩ : ByteArray), (⟨#[109, 111, 118, 49, 54, 32, 114, 49, 44, 32, 49, 10]⟩ : ByteArray), (⟨#[110, 101, 103, 54, 52, 32, 114, 49, 44, 32, 49, 10]⟩ : ByteArray), (⟨#[108, 111, 97, 100, 51, 50, 32, 114, 49, 44, 32, 114, 50, 10]⟩ : ByteArray), (⟨#[108, 111, 97, 100, 51, 50, 32, 114, 49, 44, 32, 114, 50, 45, 48, 10]⟩ : ByteArray), (⟨#[101, 120, 105, 116, 32, 10]⟩ : ByteArray), (⟨#[32, 101, 120, 105, 116, 10]⟩ : ByteArray), (⟨#[10]⟩ : ByteArray), (⟨#[99, 111, 110, 115, 116, 32, 114, 49, 44, 32, 49, 56, 52, 52, 54, 55, 52, 52, 48, 55, 51, 55, 48, 57, 53, 53, 49, 54, 49, 54, 10]⟩ : ByteArray), (⟨#[99, 97, 108, 108, 32, 50, 49, 52, 55, 52, 56, 51, 54, 52, 56, 10]⟩ : ByteArray), (⟨#[103, 111, 116, 111, 32, 43, 51, 50, 55, 54, 56, 10]⟩ : ByteArray), (⟨#[69, 120, 105, 116, 10]⟩ : ByteArray), (⟨#[101, 120, 105, 116, 13, 10]⟩ : ByteArray)] : List ByteArray)) (inner := [.string (⟨#[101, 120, 105, 116]⟩ : ByteArray), .string (⟨#[109, 111, 118, 54, 52, 32, 114, 49, 48, 44, 32, 49, 10]⟩ : ByteArray), .string (⟨#[103, 111, 116, 111, 32, 50, 10]⟩ : ByteArray), .string (⟨#[109, 111, 118, 54, 52, 32, 114, 49, 44, 53, 10]⟩ : ByteArray), .string (⟨#[109, 111, 118, 54, 52, 32, 114, 49, 44, 32, 48, 53, 10]⟩ : ByteArray), .string (⟨#[109, 111, 118, 54, 52, 32, 114, 49, 44, 32, 45, 48, 10]⟩ : ByteArray), .string (⟨#[109, 111, 118, 54, 52, 32, 114, 49, 49, 44, 32, 49, 10]⟩ : ByteArray), .string (⟨#[109, 111, 118, 49, 54, 32, 114, 49, 44, 32, 49, 10]⟩ : ByteArray), .string (⟨#[110, 101, 103, 54, 52, 32, 114, 49, 44, 32, 49, 10]⟩ : ByteArray), .string (⟨#[108, 111, 97, 100, 51, 50, 32, 114, 49, 44, 32, 114, 50, 10]⟩ : ByteArray), .string (⟨#[108, 111, 97, 100, 51, 50, 32, 114, 49, 44, 32, 114, 50, 45, 48, 10]⟩ : ByteArray), .string (⟨#[101, 120, 105, 116, 32, 10]⟩ : ByteArray), .string (⟨#[32, 101, 120, 105, 116, 10]⟩ : ByteArray), .string (⟨#[10]⟩ : ByteArray), .string (⟨#[99, 111, 110, 115, 116, 32, 114, 49, 44, 32, 49, 56, 52, 52, 54, 55, 52, 52, 48, 55, 51, 55, 48, 57, 53, 53, 49, 54, 49, 54, 10]⟩ : ByteArray), .string (⟨#[99, 97, 108, 108, 32, 50, 49, 52, 55, 52, 56, 51, 54, 52, 56, 10]⟩ : ByteArray), .string (⟨#[103, 111, 116, 111, 32, 43, 51, 50, 55, 54, 56, 10]⟩ : ByteArray), .string (⟨#[69, 120, 105, 116, 10]⟩ : ByteArray), .string (⟨#[101, 120, 105, 116, 13, 10]⟩ : ByteArray)]) (ok := fun _ => True) (okp := fun _ => True) ?hr ?hp (fun _ hk => hk) trivial (Below.refl _ _) (Nat.le_refl _) (by simp) ?_; (case hd => rfl); (case hg => rfl); (case hr => first | (go_simp; done) | (go_simp; rfl)); (case hp => exact (Reps.one (show Kd.M Kd.string _ _ _ (⟨#[101, 120, 105, 116]⟩ : ByteArray) [.string (⟨#[101, 120, 105, 116]⟩ : ByteArray)] from rfl) (Reps.one (show Kd.M Kd.string _ _ _ (⟨#[109, 111, 118, 54, 52, 32, 114, 49, 48, 44, 32, 49, 10]⟩ : ByteArray) [.string (⟨#[109, 111, 118, 54, 52, 32, 114, 49, 48, 44, 32, 49, 10]⟩ : ByteArray)] from rfl) (Reps.one (show Kd.M Kd.string _ _ _ (⟨#[103, 111, 116, 111, 32, 50, 10]⟩ : ByteArray) [.string (⟨#[103, 111, 116, 111, 32, 50, 10]⟩ : ByteArray)] from rfl) (Reps.one (show Kd.M Kd.string _ _ _ (⟨#[109, 111, 118, 54, 52, 32, 114, 49, 44, 53, 10]⟩ : ByteArray) [.string (⟨#[109, 111, 118, 54, 52, 32, 114, 49, 44, 53, 10]⟩ : ByteArray)] from rfl) (Reps.one (show Kd.M Kd.string _ _ _ (⟨#[109, 111, 118, 54, 52, 32, 114, 49, 44, 32, 48, 53, 10]⟩ : ByteArray) [.string (⟨#[109, 111, 118, 54, 52, 32, 114, 49, 44, 32, 48, 53, 10]⟩ : ByteArray)] from rfl) (Reps.one (show Kd.M Kd.string _ _ _ (⟨#[109, 111, 118, 54, 52, 32, 114, 49, 44, 32, 45, 48, 10]⟩ : ByteArray) [.string (⟨#[109, 111, 118, 54, 52, 32, 114, 49, 44, 32, 45, 48, 10]⟩ : ByteArray)] from rfl) (Reps.one (show Kd.M Kd.string _ _ _ (⟨#[109, 111, 118, 54, 52, 32, 114, 49, 49, 44, 32, 49, 10]⟩ : ByteArray) [.string (⟨#[109, 111, 118, 54, 52, 32, 114, 49, 49, 44, 32, 49, 10]⟩ : ByteArray)] from rfl) (Reps.one (show Kd.M Kd.string _ _ _ (⟨#[109, 111, 118, 49, 54, 32, 114, 49, 44, 32, 49, 10]⟩ : ByteArray) [.string (⟨#[109, 111, 118, 49, 54, 32, 114, 49, 44, 32, 49, 10]⟩ : ByteArray)] from rfl) (Reps.one (show Kd.M Kd.string _ _ _ (⟨#[110, 101, 103, 54, 52, 32, 114, 49, 44, 32, 49, 10]⟩ : ByteArray) [.string (⟨#[110, 101, 103, 54, 52, 32, 114, 49, 44, 32, 49, 10]⟩ : ByteArray)] from rfl) (Reps.one (show Kd.M Kd.string _ _ _ (⟨#[108, 111, 97, 100, 51, 50, 32, 114, 49, 44, 32, 114, 50, 10]⟩ : ByteArray) [.string (⟨#[108, 111, 97, 100, 51, 50, 32, 114, 49, 44, 32, 114, 50, 10]⟩ : ByteArray)] from rfl) (Reps.one (show Kd.M Kd.string _ _ _ (⟨#[108, 111, 97, 100, 51, 50, 32, 114, 49, 44, 32, 114, 50, 45, 48, 10]⟩ : ByteArray) [.string (⟨#[108, 111, 97, 100, 51, 50, 32, 114, 49, 44, 32, 114, 50, 45, 48, 10]⟩ : ByteArray)] from rfl) (Reps.one (show Kd.M Kd.string _ _ _ (⟨#[101, 120, 105, 116, 32, 10]⟩ : ByteArray) [.string (⟨#[101, 120, 105, 116, 32, 10]⟩ : ByteArray)] from rfl) (Reps.one (show Kd.M Kd.string _ _ _ (⟨#[32, 101, 120, 105, 116, 10]⟩ : ByteArray) [.string (⟨#[32, 101, 120, 105, 116, 10]⟩ : ByteArray)] from rfl) (Reps.one (show Kd.M Kd.string _ _ _ (⟨#[10]⟩ : ByteArray) [.string (⟨#[10]⟩ : ByteArray)] from rfl) (Reps.one (show Kd.M Kd.string _ _ _ (⟨#[99, 111, 110, 115, 116, 32, 114, 49, 44, 32, 49, 56, 52, 52, 54, 55, 52, 52, 48, 55, 51, 55, 48, 57, 53, 53, 49, 54, 49, 54, 10]⟩ : ByteArray) [.string (⟨#[99, 111, 110, 115, 116, 32, 114, 49, 44, 32, 49, 56, 52, 52, 54, 55, 52, 52, 48, 55, 51, 55, 48, 57, 53, 53, 49, 54, 49, 54, 10]⟩ : ByteArray)] from rfl) (Reps.one (show Kd.M Kd.string _ _ _ (⟨#[99, 97, 108, 108, 32, 50, 49, 52, 55, 52, 56, 51, 54, 52, 56, 10]⟩ : ByteArray) [.string (⟨#[99, 97, 108, 108, 32, 50, 49, 52, 55, 52, 56, 51, 54, 52, 56, 10]⟩ : ByteArray)] from rfl) (Reps.one (show Kd.M Kd.string _ _ _ (⟨#[103, 111, 116, 111, 32, 43, 51, 50, 55, 54, 56, 10]⟩ : ByteArray) [.string (⟨#[103, 111, 116, 111, 32, 43, 51, 50, 55, 54, 56, 10]⟩ : ByteArray)] from rfl) (Reps.one (show Kd.M Kd.string _ _ _ (⟨#[69, 120, 105, 116, 10]⟩ : ByteArray) [.string (⟨#[69, 120, 105, 116, 10]⟩ : ByteArray)] from rfl) (Reps.one (show Kd.M Kd.string _ _ _ (⟨#[101, 120, 105, 116, 13, 10]⟩ : ByteArray) [.string (⟨#[101, 120, 105, 116, 13, 10]⟩ : ByteArray)] from rfl) (Reps.none _ _))))))))))))))))))))); intro v691 w40 ho41 hb hg_ hnew_; clear hg_ hnew_; (first | rw [← Ny690.out] at ho41 | (simp only [Int.reduceToNat] at ho41; rw [← Ny690.out] at ho41)); have HO692 := Aside0.mk (Kd.R_lower ho41 (below_size b_now)); replace HO_55 := Aside0.mk (Kd.N_elder' (by (with_reducible repeat (first | apply Kd.N_alloc | apply Kd.N_drewN | apply Kd.N_drew)); exact HO_55.out) (Kd.R_base ho41) hb); replace HB := sh_b (w := w) hb; clear hb ho41; obtain ⟨Ao42, co42, eo42⟩ := Kd.R_slice HO692.out; subst eo42))
    go_loopg [100] k1 (fun kq v100 w' => ∃ (x100_2 : Int), v100 = .int .i64 x100_2 ∧ Aside0 (stockadelaw03_AsmKnown.l1 kq y690 (y690.length : Int) x100_2 = some r) ∧ Aside0 (kq ≤ k1) ∧ Aside0 (Kd.R Kd.string 9 w' w.heap.size (fun _ => True) (.slice Ao42 y690.length co42) y690) ∧ Aside0 (Below w.heap.size w w'))
    case atStart => exact ⟨(0), eq_now, H', ⟨Nat.le_refl _⟩, ⟨by (with_reducible repeat (first | apply Kd.R_alloc | apply Kd.R_drewN | apply Kd.R_drew)); exact HO692.out⟩, ⟨b_now⟩⟩
    case round =>
     clear H'
     clear c22b0
     obtain ⟨x100_2, rfl, HA, HK2, HO_98, HB⟩ := hrel
     cases gk with
     | zero => exact absurd HA.out (by simp [stockadelaw03_AsmKnown.l1])
     | succ k2 =>
      have H := HA.out
      clear HA
      simp only [stockadelaw03_AsmKnown.l1] at H
      by_cases c43 : x100_2 < (y690.length : Int)
      ·rw [if_pos c43] at H
       have c43b0 : decide (x100_2 < (y690.length : Int)) = true := decide_eq_true c43
       clear c43
       by_cases c44 : 0 ≤ x100_2
       ·rw [if_pos c44] at H
        have c44b0 : decide (0 ≤ x100_2) = true := decide_eq_true c44
        clear c44
        by_cases c45 : x100_2 < (y690.length : Int)
        ·rw [if_pos c45] at H
         have c45b0 : decide (x100_2 < (y690.length : Int)) = true := decide_eq_true c45
         clear c45
         obtain ⟨⟨t694, t695, t696⟩, A46, H⟩ := bs_ H; try dsimp only at H
         by_cases c47 : t696 = 5
         ·rw [if_pos c47] at H
          obtain ⟨c47b0, c47b1⟩ := eqT c47
          clear c47
          by_cases c48 : t695 = 1
          ·rw [if_pos c48] at H
           obtain ⟨c48b0, c48b1⟩ := eqT c48
           clear c48
           by_cases c49 : (t694.length : Int) = 0
           ·rw [if_pos c49] at H
            obtain ⟨c49b0, c49b1⟩ := eqT c49
            clear c49
            have H' := Aside0.mk H
            clear H
            have p693 : 0 ≤ (x100_2 : Int) := od_
            have q693 : x100_2 < (y690.length : Int) := od_
            obtain ⟨ad693, e693, hx693_0⟩ := Kd.at_string (Kd.R_reads' HO_98.out).2.2 x100_2 p693 q693
            cases e693
            replace p693 := eq_true p693
            replace q693 := eq_true q693
            go_wp2_with (first | ((with_reducible refine gate_callee (f := 12) rfl ?_); refine sh_call (some 106) Tryd.func12 #[.string (rdOf ByteArray.empty y690 x100_2)] ?_; (with_reducible refine (asm_Parse.calls k2 (rdOf ByteArray.empty y690 x100_2) t694 t695 t696 _ ?side1 ?side2 ?side3 ?side4 A46.out).mono ?_); (case side1 => repeat (first | exact (Kd.C_below HRG0.out HB.out) | (with_reducible refine Kd.C_alloc ?_ _) | (with_reducible refine Kd.C_drewN ?_ _) | (with_reducible refine Kd.C_drew ?_))); (case side2 => repeat (first | exact (Kd.C_below HRG1.out HB.out) | (with_reducible refine Kd.C_alloc ?_ _) | (with_reducible refine Kd.C_drewN ?_ _) | (with_reducible refine Kd.C_drew ?_))); (case side3 => repeat (first | exact (Kd.C_below HRG2.out HB.out) | (with_reducible refine Kd.C_alloc ?_ _) | (with_reducible refine Kd.C_drewN ?_ _) | (with_reducible refine Kd.C_drew ?_))); (case side4 => repeat (first | exact (Kd.C_below HRG3.out HB.out) | (with_reducible refine Kd.C_alloc ?_ _) | (with_reducible refine Kd.C_drewN ?_ _) | (with_reducible refine Kd.C_drew ?_))); rintro e w50 ⟨v697, rfl, ho0, hb⟩; refine ⟨_, rfl, ?_⟩; have HO698 := Aside0.mk (Kd.R_lower ho0 (below_size b_now)); replace HO_98 := Aside0.mk (Kd.R_below (by (with_reducible repeat (first | apply Kd.R_alloc | apply Kd.R_drewN | apply Kd.R_drew)); exact HO_98.out) hb); replace HB := sh_b (w := w) hb; (try clear hb); (try clear hb2); (try clear hk); (try clear hi); (try clear ho0); obtain ⟨Ao51, co51, eo51⟩ := Kd.R_slice HO698.out; subst eo51))
            go_roundg k2
            case measure => have := HK1.out; have := HK2.out; omega
            case rel => exact ⟨(wrap64 (x100_2 + 1)), eq_now, H', ⟨by have := HK1.out; have := HK2.out; omega⟩, ⟨by (with_reducible repeat (first | apply Kd.R_alloc | apply Kd.R_drewN | apply Kd.R_drew)); exact HO_98.out⟩, ⟨b_now⟩⟩
           ·rw [if_neg c49] at H
            obtain ⟨c49b0, c49b1⟩ := eqF c49
            have c49b2 : ¬ (t694 = []) := fun h_ => c49 (by rw [h_]; rfl)
            obtain rfl := Option.some.inj H
            exact absurd HRT.out (by simp)
          ·rw [if_neg c48] at H
           obtain ⟨c48b0, c48b1⟩ := eqF c48
           obtain rfl := Option.some.inj H
           exact absurd HRT.out (by simp)
         ·rw [if_neg c47] at H
          obtain ⟨c47b0, c47b1⟩ := eqF c47
          obtain rfl := Option.some.inj H
          exact absurd HRT.out (by simp)
        ·rw [if_neg c45] at H
         exact absurd H (by simp)
       ·rw [if_neg c44] at H
        exact absurd H (by simp)
      ·rw [if_neg c43] at H
       have c43b0 : decide (x100_2 < (y690.length : Int)) = false := decide_eq_false c43
       clear c43
       by_cases c52 : 512 ≤ 23456248059221
       ·rw [if_pos c52] at H
        have c52b0 := eq_true c52
        have c52b1 : decide (512 ≤ 23456248059221) = true := decide_eq_true c52
        clear c52
        obtain ⟨y699, hy699⟩ : ∃ y_ : List (S37), y_ = (List.replicate 512 z37) := ⟨_, rfl⟩
        replace H : (stockadelaw03_AsmKnown.l2 k2 y699 0) = some r := by first | (rw [hy699]; with_reducible exact H) | (have H2_ := (Option.bind_some _ _).symm.trans H; rw [hy699]; with_reducible exact H2_) | (have H2_ := (Option.bind_some _ _).symm.trans H; with_reducible exact H2_) | with_reducible exact H | (rw [hy699]; exact H) | exact H
        have Ny699 := Aside0.mk hy699
        clear hy699
        have H' := Aside0.mk H
        clear H
        go_wp2_with (first | ((with_reducible refine gate_dst (N := 122) rfl ?_); (try (refine gate_guard (by rfl) ?_; dsimp only)); refine Kd.R_make k37 _ 37 rfl (N := 122) rfl 22 _ _ rfl 512 rfl rfl Tryd.underlying22 (.agg #[(.int .u8 0), (.int .u8 0), (.int .u8 0), (.int .i16 0), (.int .i32 0)]) 12 info37 rfl (by decide) (by omega) z37 (ok := fun _ => True) (okp := fun _ => True) (k37_mkM _ _ _ z37 ) (fun _ hk => hk) trivial (by omega) (by omega) (Below.refl _ _) (Nat.le_refl _) ?_; intro v700 w53 ho54 hb hg_ hnew_; clear hg_ hnew_; (first | rw [← Ny699.out] at ho54 | (simp only [Int.reduceToNat] at ho54; rw [← Ny699.out] at ho54)); have HO701 := Aside0.mk (Kd.R_lower ho54 (below_size b_now)); replace HO_98 := Aside0.mk (Kd.R_below (by (with_reducible repeat (first | apply Kd.R_alloc | apply Kd.R_drewN | apply Kd.R_drew)); exact HO_98.out) hb); replace HB := sh_b (w := w) hb; clear hb ho54))
        go_loopg [14] k2 (fun kq v14 w' => ∃ (x13_3 : List (S37)) (x14_3 : Int), v14 = .int .i64 x14_3 ∧ Aside0 (stockadelaw03_AsmKnown.l2 kq x13_3 x14_3 = some r) ∧ Aside0 (kq ≤ k2) ∧ Aside0 (Kd.R k37 37 w' w.heap.size (fun _ => True) v700 x13_3) ∧ Aside0 (Below w.heap.size w w'))
        case atStart => exact ⟨(y699), (0), eq_now, H', ⟨Nat.le_refl _⟩, ⟨by (with_reducible repeat (first | apply Kd.R_alloc | apply Kd.R_drewN | apply Kd.R_drew)); exact HO701.out⟩, ⟨b_now⟩⟩
        case round =>
         clear H'
         clear c43b0 c52b0 c52b1
         obtain ⟨x13_3, x14_3, rfl, HA, HK3, HO_13, HB⟩ := hrel
         cases gk with
         | zero => exact absurd HA.out (by simp [stockadelaw03_AsmKnown.l2])
         | succ k3 =>
          have H := HA.out
          clear HA
          simp only [stockadelaw03_AsmKnown.l2] at H
          by_cases c55 : x14_3 < (x13_3.length : Int)
          ·rw [if_pos c55] at H
           have c55b0 : decide (x14_3 < (x13_3.length : Int)) = true := decide_eq_true c55
           clear c55
           by_cases c56 : 0 ≤ x14_3
           ·rw [if_pos c56] at H
            have c56b0 : decide (0 ≤ x14_3) = true := decide_eq_true c56
            clear c56
            obtain ⟨y702, hy702⟩ : ∃ y_ : List (S37), y_ = (x13_3.set (x14_3 : Int).toNat (⟨149, 0, 0, 0, 0⟩ : S37)) := ⟨_, rfl⟩
            replace H : (stockadelaw03_AsmKnown.l2 k3 y702 (wrap64 (x14_3 + 1))) = some r := by first | (rw [hy702]; with_reducible exact H) | (have H2_ := (Option.bind_some _ _).symm.trans H; rw [hy702]; with_reducible exact H2_) | (have H2_ := (Option.bind_some _ _).symm.trans H; with_reducible exact H2_) | with_reducible exact H | (rw [hy702]; exact H) | exact H
            have Ny702 := Aside0.mk hy702
            clear hy702
            have H' := Aside0.mk H
            clear H
            obtain ⟨Ao58, co58, eo58⟩ := Kd.R_slice HO_13.out
            subst eo58
            have p57 : 0 ≤ (x14_3 : Int) := od_
            have q57 : (x14_3 : Int) < ((x13_3.length : Int) : Int) := od_
            obtain ⟨go57, co57, eo57, gb57, gl57, cl57, HG57⟩ := Kd.R_form HO_13.out (by omega)
            (first | cases eo57 | (injection eo57 with ea_ en_ ec_; (first | subst ea_ | (injection ea_ with ea_; subst ea_)); subst ec_; clear en_))
            have GB57 := Aside0.mk gb57
            have GG57 := Aside0.mk HG57
            clear gb57 gl57 HG57
            obtain ⟨ce57, hcl57, hM57, hcc57, hfr57⟩ := Kd.R_elem HO_13.out z37 (x14_3 : Int) p57 q57
            obtain rfl := k37_openM hM57
            have hx57_0 : wr.cell? ⟨go57, (x14_3 : Int).toNat * 5, none⟩ = some (.int .u8 ((rd_T37 x13_3 x14_3).f0)) := hcc57 0 _ rfl
            have hx57_1 : wr.cell? ⟨go57, (x14_3 : Int).toNat * 5 + 1, none⟩ = some (.int .u8 ((rd_T37 x13_3 x14_3).f1)) := hcc57 1 _ rfl
            have hx57_2 : wr.cell? ⟨go57, (x14_3 : Int).toNat * 5 + 2, none⟩ = some (.int .u8 ((rd_T37 x13_3 x14_3).f2)) := hcc57 2 _ rfl
            have hx57_3 : wr.cell? ⟨go57, (x14_3 : Int).toNat * 5 + 3, none⟩ = some (.int .i16 ((rd_T37 x13_3 x14_3).f3)) := hcc57 3 _ rfl
            have hx57_4 : wr.cell? ⟨go57, (x14_3 : Int).toNat * 5 + 4, none⟩ = some (.int .i32 ((rd_T37 x13_3 x14_3).f4)) := hcc57 4 _ rfl
            have hf57_0 : wr.frozen? ⟨go57, (x14_3 : Int).toNat * 5, none⟩ = false := hfr57 0
            have hf57_1 : wr.frozen? ⟨go57, (x14_3 : Int).toNat * 5 + 1, none⟩ = false := hfr57 1
            have hf57_2 : wr.frozen? ⟨go57, (x14_3 : Int).toNat * 5 + 2, none⟩ = false := hfr57 2
            have hf57_3 : wr.frozen? ⟨go57, (x14_3 : Int).toNat * 5 + 3, none⟩ = false := hfr57 3
            have hf57_4 : wr.frozen? ⟨go57, (x14_3 : Int).toNat * 5 + 4, none⟩ = false := hfr57 4
            clear hcl57 hcc57 hfr57 hM57
            replace p57 := eq_true p57
            replace q57 := eq_true q57
            have HX59 := Aside0.mk (show Kd.R k37 37 wr w.heap.size (fun _ => True) (.slice (some ⟨go57, 0, none⟩) x13_3.length co58) x13_3 from (by (with_reducible repeat (first | apply Kd.R_alloc | apply Kd.R_drewN | apply Kd.R_drew)); exact HO_13.out))
            obtain ⟨ce59, hcl59, hM59, hcc59, hfr59⟩ := Kd.R_elem HX59.out z37 (x14_3 : Int) (od_) (by have h_ : (x14_3 : Int) < ((x13_3.length : Int) : Int) := od_; first | exact h_ | (have e_ := (Kd.R_reads' HO_13.out).1; omega) | simpa using h_)
            obtain rfl := k37_openM hM59
            have HP59 := Kd.R_seg HX59.out (x14_3 : Int) (od_) (by have h_ : (x14_3 : Int) < ((x13_3.length : Int) : Int) := od_; first | exact h_ | (have e_ := (Kd.R_reads' HO_13.out).1; omega) | simpa using h_) (seg := [.int .u8 149, .int .u8 0, .int .u8 0, .int .i16 0, .int .i32 0]) (j := 0) hcl59 hcc59 (show 5 ≤ 5 from by decide) (x' := (⟨149, 0, 0, 0, 0⟩ : S37)) (k37_mkM _ _ _ (⟨149, 0, 0, 0, 0⟩ : S37) ) (fun _ hk => hk)
            have hx59_0 := hcc59 0 _ rfl
            (try simp only [show (k37).sz = 5 from rfl, Nat.mul_one, Nat.add_zero] at hx59_0)
            have hf59_0 := hfr59 0
            (try simp only [show (k37).sz = 5 from rfl, Nat.mul_one, Nat.add_zero] at hf59_0)
            have hx59_1 := hcc59 1 _ rfl
            (try simp only [show (k37).sz = 5 from rfl, Nat.mul_one, Nat.add_zero] at hx59_1)
            have hf59_1 := hfr59 1
            (try simp only [show (k37).sz = 5 from rfl, Nat.mul_one, Nat.add_zero] at hf59_1)
            have hx59_2 := hcc59 2 _ rfl
            (try simp only [show (k37).sz = 5 from rfl, Nat.mul_one, Nat.add_zero] at hx59_2)
            have hf59_2 := hfr59 2
            (try simp only [show (k37).sz = 5 from rfl, Nat.mul_one, Nat.add_zero] at hf59_2)
            have hx59_3 := hcc59 3 _ rfl
            (try simp only [show (k37).sz = 5 from rfl, Nat.mul_one, Nat.add_zero] at hx59_3)
            have hf59_3 := hfr59 3
            (try simp only [show (k37).sz = 5 from rfl, Nat.mul_one, Nat.add_zero] at hf59_3)
            have hx59_4 := hcc59 4 _ rfl
            (try simp only [show (k37).sz = 5 from rfl, Nat.mul_one, Nat.add_zero] at hx59_4)
            have hf59_4 := hfr59 4
            (try simp only [show (k37).sz = 5 from rfl, Nat.mul_one, Nat.add_zero] at hf59_4)
            clear hcl59 hcc59 hfr59 hM59
            go_wp2_with (first | ((with_reducible refine gate_store (t := 37) (p := 132) rfl ?_); refine store_event (t := 37) (p := 132) (v := ?vo_w60) (w1 := (((((wr.setCell ⟨go57, (x14_3 : Int).toNat * 5, none⟩ (.int .u8 149)).setCell ⟨go57, (x14_3 : Int).toNat * 5 + 1, none⟩ (.int .u8 0)).setCell ⟨go57, (x14_3 : Int).toNat * 5 + 2, none⟩ (.int .u8 0)).setCell ⟨go57, (x14_3 : Int).toNat * 5 + 3, none⟩ (.int .i16 0)).setCell ⟨go57, (x14_3 : Int).toNat * 5 + 4, none⟩ (.int .i32 0))) ?hg ?ho ?hn ?hr ?_; (case ho => rfl); (case hg => rfl); (case hn => rfl); (case hr => first | (go_simp; done) | (go_simp; rfl)); intro w60 hw; have hg : wr.grownBy w60 (some go57) := (by rw [hw]; exact HP59.2); have hp_ : Kd.R k37 37 w60 w.heap.size (fun _ => True) (.slice (some ⟨go57, 0, none⟩) x13_3.length co58) y702 := (by rw [hw, Ny702.out]; exact HP59.1); clear HP59; replace HO_13 := Aside0.mk (hp_); replace HB := Aside0.mk ((by rw [hw]; exact below_set (below_set (below_set (below_set (below_set (HB.out) GB57.out) GB57.out) GB57.out) GB57.out) GB57.out : Below w.heap.size w w60)); clear hg hw hp_))
            go_roundg k3
            case measure => have := HK1.out; have := HK2.out; have := HK3.out; omega
            case rel => exact ⟨(y702), (wrap64 (x14_3 + 1)), eq_now, H', ⟨by have := HK1.out; have := HK2.out; have := HK3.out; omega⟩, ⟨by (with_reducible repeat (first | apply Kd.R_alloc | apply Kd.R_drewN | apply Kd.R_drew)); exact HO_13.out⟩, ⟨b_now⟩⟩
           ·rw [if_neg c56] at H
            exact absurd H (by simp)
          ·rw [if_neg c55] at H
           have c55b0 : decide (x14_3 < (x13_3.length : Int)) = false := decide_eq_false c55
           clear c55
           obtain ⟨⟨t703, t704⟩, A61, H⟩ := bs_ H; try dsimp only at H
           by_cases c62 : x13_3.length < 11728124029610
           ·rw [if_pos c62] at H
            have LMc62 := Aside0.mk c62
            clear c62
            obtain ⟨y705, hy705⟩ : ∃ y_ : List (S37), y_ = (x13_3 ++ [(⟨0, 0, 0, 0, 0⟩ : S37)]) := ⟨_, rfl⟩
            replace H : ((asm_Print.f k3 y705).bind fun bt708 => ((asm_Parse.f k3 t703).bind fun bt710 => (if t703.size + 5 ≤ 9223372036854775807 then ((asm_Parse.f k3 (t703 ++ (⟨#[101, 120, 105, 116, 10]⟩ : ByteArray))).bind fun bt715 => (if 65537 ≤ 281474976710656 then ((asm_Parse.f k3 (strOfNums (List.replicate 65537 0))).bind fun bt723 => ((asm_Print.f k3 (([(⟨24, 0, 0, 0, 0⟩ : S37)] : List (S37)))).bind fun bt731 => ((asm_Print.f k3 (([(⟨24, 0, 1, 0, 0⟩ : S37), (⟨0, 0, 0, 0, 1⟩ : S37)] : List (S37)))).bind fun bt736 => (if t704 = 0 then (if bt708.2 = 3 then (if (bt710.1.length : Int) = 512 then (if bt710.2.1 = 0 then (if bt710.2.2 = 0 then (if bt715.2.1 = 513 then (if bt715.2.2 = 3 then (if bt723.2.1 = 0 then (if bt723.2.2 = 3 then (if bt731.2 = 23 then (if bt736.2 = 23 then ((stockadelaw03_wakes.f k3).bind fun t738 => (some t738)) else (some false)) else (some false)) else (some false)) else (some false)) else (some false)) else (some false)) else (some false)) else (some false)) else (some false)) else (some false)) else (some false))))) else (none))) else (none)))) = some r := by first | (rw [hy705]; with_reducible exact H) | (have H2_ := (Option.bind_some _ _).symm.trans H; rw [hy705]; with_reducible exact H2_) | (have H2_ := (Option.bind_some _ _).symm.trans H; with_reducible exact H2_) | with_reducible exact H | (rw [hy705]; exact H) | exact H
            have Ny705 := Aside0.mk hy705
            clear hy705
            obtain ⟨⟨t708, t709⟩, A63, H⟩ := bs_ H; try dsimp only at H
            obtain ⟨⟨t710, t711, t712⟩, A64, H⟩ := bs_ H; try dsimp only at H
            by_cases c65 : t703.size + 5 ≤ 9223372036854775807
            ·rw [if_pos c65] at H
             have c65b0 := eq_true c65
             have c65b1 : decide (t703.size + 5 ≤ 9223372036854775807) = true := decide_eq_true c65
             try have c65b2 : (9223372036854775807 < t703.size + 5) = False := eq_false (Nat.not_lt.2 c65)
             obtain ⟨⟨t715, t716, t717⟩, A66, H⟩ := bs_ H; try dsimp only at H
             by_cases c67 : 65537 ≤ 281474976710656
             ·rw [if_pos c67] at H
              have c67b0 := eq_true c67
              have c67b1 : decide (65537 ≤ 281474976710656) = true := decide_eq_true c67
              clear c67
              obtain ⟨y720, hy720⟩ : ∃ y_ : List Int, y_ = (List.replicate 65537 0) := ⟨_, rfl⟩
              replace H : ((asm_Parse.f k3 (strOfNums y720)).bind fun bt723 => ((asm_Print.f k3 (([(⟨24, 0, 0, 0, 0⟩ : S37)] : List (S37)))).bind fun bt731 => ((asm_Print.f k3 (([(⟨24, 0, 1, 0, 0⟩ : S37), (⟨0, 0, 0, 0, 1⟩ : S37)] : List (S37)))).bind fun bt736 => (if t704 = 0 then (if t709 = 3 then (if (t710.length : Int) = 512 then (if t711 = 0 then (if t712 = 0 then (if t716 = 513 then (if t717 = 3 then (if bt723.2.1 = 0 then (if bt723.2.2 = 3 then (if bt731.2 = 23 then (if bt736.2 = 23 then ((stockadelaw03_wakes.f k3).bind fun t738 => (some t738)) else (some false)) else (some false)) else (some false)) else (some false)) else (some false)) else (some false)) else (some false)) else (some false)) else (some false)) else (some false)) else (some false))))) = some r := by first | (rw [hy720]; with_reducible exact H) | (have H2_ := (Option.bind_some _ _).symm.trans H; rw [hy720]; with_reducible exact H2_) | (have H2_ := (Option.bind_some _ _).symm.trans H; with_reducible exact H2_) | with_reducible exact H | (rw [hy720]; exact H) | exact H
              have Ny720 := Aside0.mk hy720
              clear hy720
              obtain ⟨⟨t723, t724, t725⟩, A68, H⟩ := bs_ H; try dsimp only at H
              obtain ⟨y728, hy728⟩ : ∃ y_ : List (S37), y_ = (([(⟨24, 0, 0, 0, 0⟩ : S37)] : List (S37))) := ⟨_, rfl⟩
              replace H : ((asm_Print.f k3 y728).bind fun bt731 => ((asm_Print.f k3 (([(⟨24, 0, 1, 0, 0⟩ : S37), (⟨0, 0, 0, 0, 1⟩ : S37)] : List (S37)))).bind fun bt736 => (if t704 = 0 then (if t709 = 3 then (if (t710.length : Int) = 512 then (if t711 = 0 then (if t712 = 0 then (if t716 = 513 then (if t717 = 3 then (if t724 = 0 then (if t725 = 3 then (if bt731.2 = 23 then (if bt736.2 = 23 then ((stockadelaw03_wakes.f k3).bind fun t738 => (some t738)) else (some false)) else (some false)) else (some false)) else (some false)) else (some false)) else (some false)) else (some false)) else (some false)) else (some false)) else (some false)) else (some false)))) = some r := by first | (rw [hy728]; with_reducible exact H) | (have H2_ := (Option.bind_some _ _).symm.trans H; rw [hy728]; with_reducible exact H2_) | (have H2_ := (Option.bind_some _ _).symm.trans H; with_reducible exact H2_) | with_reducible exact H | (rw [hy728]; exact H) | exact H
              have Ny728 := Aside0.mk hy728
              clear hy728
              obtain ⟨⟨t731, t732⟩, A69, H⟩ := bs_ H; try dsimp only at H
              obtain ⟨y733, hy733⟩ : ∃ y_ : List (S37), y_ = (([(⟨24, 0, 1, 0, 0⟩ : S37), (⟨0, 0, 0, 0, 1⟩ : S37)] : List (S37))) := ⟨_, rfl⟩
              replace H : ((asm_Print.f k3 y733).bind fun bt736 => (if t704 = 0 then (if t709 = 3 then (if (t710.length : Int) = 512 then (if t711 = 0 then (if t712 = 0 then (if t716 = 513 then (if t717 = 3 then (if t724 = 0 then (if t725 = 3 then (if t732 = 23 then (if bt736.2 = 23 then ((stockadelaw03_wakes.f k3).bind fun t738 => (some t738)) else (some false)) else (some false)) else (some false)) else (some false)) else (some false)) else (some false)) else (some false)) else (some false)) else (some false)) else (some false)) else (some false))) = some r := by first | (rw [hy733]; with_reducible exact H) | (have H2_ := (Option.bind_some _ _).symm.trans H; rw [hy733]; with_reducible exact H2_) | (have H2_ := (Option.bind_some _ _).symm.trans H; with_reducible exact H2_) | with_reducible exact H | (rw [hy733]; exact H) | exact H
              have Ny733 := Aside0.mk hy733
              clear hy733
              obtain ⟨⟨t736, t737⟩, A70, H⟩ := bs_ H; try dsimp only at H
              by_cases c71 : t704 = 0
              ·rw [if_pos c71] at H
               obtain ⟨c71b0, c71b1⟩ := eqT c71
               clear c71
               by_cases c72 : t709 = 3
               ·rw [if_pos c72] at H
                obtain ⟨c72b0, c72b1⟩ := eqT c72
                clear c72
                by_cases c73 : (t710.length : Int) = 512
                ·rw [if_pos c73] at H
                 obtain ⟨c73b0, c73b1⟩ := eqT c73
                 clear c73
                 by_cases c74 : t711 = 0
                 ·rw [if_pos c74] at H
                  obtain ⟨c74b0, c74b1⟩ := eqT c74
                  clear c74
                  by_cases c75 : t712 = 0
                  ·rw [if_pos c75] at H
                   obtain ⟨c75b0, c75b1⟩ := eqT c75
                   clear c75
                   by_cases c76 : t716 = 513
                   ·rw [if_pos c76] at H
                    obtain ⟨c76b0, c76b1⟩ := eqT c76
                    clear c76
                    by_cases c77 : t717 = 3
                    ·rw [if_pos c77] at H
                     obtain ⟨c77b0, c77b1⟩ := eqT c77
                     clear c77
                     by_cases c78 : t724 = 0
                     ·rw [if_pos c78] at H
                      obtain ⟨c78b0, c78b1⟩ := eqT c78
                      clear c78
                      by_cases c79 : t725 = 3
                      ·rw [if_pos c79] at H
                       obtain ⟨c79b0, c79b1⟩ := eqT c79
                       clear c79
                       by_cases c80 : t732 = 23
                       ·rw [if_pos c80] at H
                        obtain ⟨c80b0, c80b1⟩ := eqT c80
                        clear c80
                        by_cases c81 : t737 = 23
                        ·rw [if_pos c81] at H
                         obtain ⟨c81b0, c81b1⟩ := eqT c81
                         clear c81
                         obtain ⟨t738, A82, H⟩ := bs_ H; try dsimp only at H
                         obtain rfl := Option.some.inj H
                         obtain ⟨Ao83, co83, eo83⟩ := Kd.R_slice HO_13.out
                         subst eo83
                         go_wp2_with (first | ((with_reducible refine gate_callee (f := 9) rfl ?_); refine sh_call (some 135) Tryd.func9 #[.slice Ao83 x13_3.length co83] ?_; (with_reducible refine (asm_Print.calls k3 _ _ x13_3 t703 t704 _ ?side1 ?side2 ?side3 ?side4 ?side5 ?side6 A61.out).mono ?_); (case side1 => repeat (first | exact (Kd.R_reads' HO_13.out).2.2 | (with_reducible refine Kd.C_alloc ?_ _) | (with_reducible refine Kd.C_drewN ?_ _) | (with_reducible refine Kd.C_drew ?_))); (case side2 => exact (Kd.R_reads' HO_13.out).2.1); (case side3 => repeat (first | exact (Kd.C_below HRG0.out HB.out) | (with_reducible refine Kd.C_alloc ?_ _) | (with_reducible refine Kd.C_drewN ?_ _) | (with_reducible refine Kd.C_drew ?_))); (case side4 => repeat (first | exact (Kd.C_below HRG1.out HB.out) | (with_reducible refine Kd.C_alloc ?_ _) | (with_reducible refine Kd.C_drewN ?_ _) | (with_reducible refine Kd.C_drew ?_))); (case side5 => repeat (first | exact (Kd.C_below HRG2.out HB.out) | (with_reducible refine Kd.C_alloc ?_ _) | (with_reducible refine Kd.C_drewN ?_ _) | (with_reducible refine Kd.C_drew ?_))); (case side6 => repeat (first | exact (Kd.C_below HRG3.out HB.out) | (with_reducible refine Kd.C_alloc ?_ _) | (with_reducible refine Kd.C_drewN ?_ _) | (with_reducible refine Kd.C_drew ?_))); rintro e w84 ⟨rfl, hb⟩; refine ⟨_, rfl, ?_⟩; replace HO_13 := Aside0.mk (Kd.R_below (by (with_reducible repeat (first | apply Kd.R_alloc | apply Kd.R_drewN | apply Kd.R_drew)); exact HO_13.out) hb); replace HB := sh_b (w := w) hb; (try clear hb); (try clear hb2); (try clear hk); (try clear hi)) | ((with_reducible refine gate_builtin (b := .append) (xs := #[.tmp 139, .tmp 141]) rfl ?_); (try (refine gate_guard (by rfl) ?_; dsimp only)); at_builtin; refine Kd.R_append k37 (w0 := w) w.heap.size rfl (.tmp 139) (.tmp 141) 22 37 (.agg #[(.int .u8 0), (.int .u8 0), (.int .u8 0), (.int .i16 0), (.int .i32 0)]) 12 rfl Tryd.underlying22 info37 rfl (by decide) (by omega) (.slice Ao83 x13_3.length co83) x13_3 (⟨0, 0, 0, 0, 0⟩ : S37) [.int .u8 0, .int .u8 0, .int .u8 0, .int .i16 0, .int .i32 0] (fun _ => True) (fun _ => False) rfl rfl ?aP (fun _ hk => hk.elim) ?aF ?aO ?aB ?aS ?aL ?_; (case aP => exact k37_mkM _ _ _ (⟨0, 0, 0, 0, 0⟩ : S37)); (case aB => exact b_now); (case aF => exact (fun _ _ => trivial)); (case aO => exact (by (with_reducible repeat (first | apply Kd.R_alloc | apply Kd.R_drewN | apply Kd.R_drew)); exact HO_13.out)); (case aS => exact (below_size b_now)); (case aL => have := LMc62.out; omega); intro v706 w85 ho hb hg hat; rw [← Ny705.out] at ho; have n0_ := Aside0.mk (hb); have n1_ := Aside0.mk (ho); clear HB; clear HO_13; have HB := n0_; have HO707 := n1_; clear n0_ n1_; clear ho hb hg hat; obtain ⟨Ao86, co86, eo86⟩ := Kd.R_slice HO707.out; subst eo86) | ((with_reducible refine gate_callee (f := 9) rfl ?_); refine sh_call (some 143) Tryd.func9 #[.slice Ao86 y705.length co86] ?_; (with_reducible refine (asm_Print.calls k3 _ _ y705 t708 t709 _ ?side1 ?side2 ?side3 ?side4 ?side5 ?side6 A63.out).mono ?_); (case side1 => repeat (first | exact (Kd.R_reads' HO707.out).2.2 | (with_reducible refine Kd.C_alloc ?_ _) | (with_reducible refine Kd.C_drewN ?_ _) | (with_reducible refine Kd.C_drew ?_))); (case side2 => exact (Kd.R_reads' HO707.out).2.1); (case side3 => repeat (first | exact (Kd.C_below HRG0.out HB.out) | (with_reducible refine Kd.C_alloc ?_ _) | (with_reducible refine Kd.C_drewN ?_ _) | (with_reducible refine Kd.C_drew ?_))); (case side4 => repeat (first | exact (Kd.C_below HRG1.out HB.out) | (with_reducible refine Kd.C_alloc ?_ _) | (with_reducible refine Kd.C_drewN ?_ _) | (with_reducible refine Kd.C_drew ?_))); (case side5 => repeat (first | exact (Kd.C_below HRG2.out HB.out) | (with_reducible refine Kd.C_alloc ?_ _) | (with_reducible refine Kd.C_drewN ?_ _) | (with_reducible refine Kd.C_drew ?_))); (case side6 => repeat (first | exact (Kd.C_below HRG3.out HB.out) | (with_reducible refine Kd.C_alloc ?_ _) | (with_reducible refine Kd.C_drewN ?_ _) | (with_reducible refine Kd.C_drew ?_))); rintro e w87 ⟨rfl, hb⟩; refine ⟨_, rfl, ?_⟩; replace HO707 := Aside0.mk (Kd.R_below (by (with_reducible repeat (first | apply Kd.R_alloc | apply Kd.R_drewN | apply Kd.R_drew)); exact HO707.out) hb); replace HB := sh_b (w := w) hb; (try clear hb); (try clear hb2); (try clear hk); (try clear hi)) | ((with_reducible refine gate_callee (f := 12) rfl ?_); refine sh_call (some 148) Tryd.func12 #[.string t703] ?_; (with_reducible refine (asm_Parse.calls k3 t703 t710 t711 t712 _ ?side1 ?side2 ?side3 ?side4 A64.out).mono ?_); (case side1 => repeat (first | exact (Kd.C_below HRG0.out HB.out) | (with_reducible refine Kd.C_alloc ?_ _) | (with_reducible refine Kd.C_drewN ?_ _) | (with_reducible refine Kd.C_drew ?_))); (case side2 => repeat (first | exact (Kd.C_below HRG1.out HB.out) | (with_reducible refine Kd.C_alloc ?_ _) | (with_reducible refine Kd.C_drewN ?_ _) | (with_reducible refine Kd.C_drew ?_))); (case side3 => repeat (first | exact (Kd.C_below HRG2.out HB.out) | (with_reducible refine Kd.C_alloc ?_ _) | (with_reducible refine Kd.C_drewN ?_ _) | (with_reducible refine Kd.C_drew ?_))); (case side4 => repeat (first | exact (Kd.C_below HRG3.out HB.out) | (with_reducible refine Kd.C_alloc ?_ _) | (with_reducible refine Kd.C_drewN ?_ _) | (with_reducible refine Kd.C_drew ?_))); rintro e w88 ⟨v713, rfl, ho0, hb⟩; refine ⟨_, rfl, ?_⟩; have HO714 := Aside0.mk (Kd.R_lower (Kd.R_new' ho0 (Kd.R_lt (by (with_reducible repeat (first | apply Kd.R_alloc | apply Kd.R_drewN | apply Kd.R_drew)); exact HO707.out))) (below_size b_now)); replace HO707 := Aside0.mk (Kd.R_elder' (by (with_reducible repeat (first | apply Kd.R_alloc | apply Kd.R_drewN | apply Kd.R_drew)); exact HO707.out) (Kd.R_base ho0) hb); replace HB := sh_b (w := w) hb; (try clear hb); (try clear hb2); (try clear hk); (try clear hi); (try clear ho0)) | ((with_reducible refine gate_callee (f := 12) rfl ?_); refine sh_call (some 155) Tryd.func12 #[.string (t703 ++ (⟨#[101, 120, 105, 116, 10]⟩ : ByteArray))] ?_; (with_reducible refine (asm_Parse.calls k3 (t703 ++ (⟨#[101, 120, 105, 116, 10]⟩ : ByteArray)) t715 t716 t717 _ ?side1 ?side2 ?side3 ?side4 A66.out).mono ?_); (case side1 => repeat (first | exact (Kd.C_below HRG0.out HB.out) | (with_reducible refine Kd.C_alloc ?_ _) | (with_reducible refine Kd.C_drewN ?_ _) | (with_reducible refine Kd.C_drew ?_))); (case side2 => repeat (first | exact (Kd.C_below HRG1.out HB.out) | (with_reducible refine Kd.C_alloc ?_ _) | (with_reducible refine Kd.C_drewN ?_ _) | (with_reducible refine Kd.C_drew ?_))); (case side3 => repeat (first | exact (Kd.C_below HRG2.out HB.out) | (with_reducible refine Kd.C_alloc ?_ _) | (with_reducible refine Kd.C_drewN ?_ _) | (with_reducible refine Kd.C_drew ?_))); (case side4 => repeat (first | exact (Kd.C_below HRG3.out HB.out) | (with_reducible refine Kd.C_alloc ?_ _) | (with_reducible refine Kd.C_drewN ?_ _) | (with_reducible refine Kd.C_drew ?_))); rintro e w89 ⟨v718, rfl, ho0, hb⟩; refine ⟨_, rfl, ?_⟩; have HO719 := Aside0.mk (Kd.R_lower (Kd.R_new' (Kd.R_new' ho0 (Kd.R_lt (by (with_reducible repeat (first | apply Kd.R_alloc | apply Kd.R_drewN | apply Kd.R_drew)); exact HO707.out))) (Kd.R_lt (by (with_reducible repeat (first | apply Kd.R_alloc | apply Kd.R_drewN | apply Kd.R_drew)); exact HO714.out))) (below_size b_now)); replace HO707 := Aside0.mk (Kd.R_elder' (by (with_reducible repeat (first | apply Kd.R_alloc | apply Kd.R_drewN | apply Kd.R_drew)); exact HO707.out) (Kd.R_base ho0) hb); replace HO714 := Aside0.mk (Kd.R_elder' (by (with_reducible repeat (first | apply Kd.R_alloc | apply Kd.R_drewN | apply Kd.R_drew)); exact HO714.out) (Kd.R_base ho0) hb); replace HB := sh_b (w := w) hb; (try clear hb); (try clear hb2); (try clear hk); (try clear hi); (try clear ho0)) | ((with_reducible refine gate_dst (N := 160) rfl ?_); (try (refine gate_guard (by rfl) ?_; dsimp only)); refine Kd.R_make (Kd.int .u8) _ 5 rfl (N := 160) rfl 44 _ _ rfl 65537 rfl rfl Tryd.underlying44 (.int .u8 0) 1 info5 rfl (by decide) (by omega) 0 (ok := fun _ => True) (okp := fun _ => True) rfl (fun _ hk => hk) trivial (by omega) (by omega) (Below.refl _ _) (Nat.le_refl _) ?_; intro v721 w90 ho91 hb hg_ hnew_; clear hg_ hnew_; (first | rw [← Ny720.out] at ho91 | (simp only [Int.reduceToNat] at ho91; rw [← Ny720.out] at ho91)); have HO722 := Aside0.mk (Kd.R_lower ho91 (below_size b_now)); replace HO707 := Aside0.mk (Kd.R_below (by (with_reducible repeat (first | apply Kd.R_alloc | apply Kd.R_drewN | apply Kd.R_drew)); exact HO707.out) hb); replace HO714 := Aside0.mk (Kd.R_below (by (with_reducible repeat (first | apply Kd.R_alloc | apply Kd.R_drewN | apply Kd.R_drew)); exact HO714.out) hb); replace HO719 := Aside0.mk (Kd.R_below (by (with_reducible repeat (first | apply Kd.R_alloc | apply Kd.R_drewN | apply Kd.R_drew)); exact HO719.out) hb); replace HB := sh_b (w := w) hb; clear hb ho91; have hcv92 := own_string (P := Tryd.prog) Tryd.underlying44 Tryd.underlying5 Tryd.underlying9 (Kd.own_of_R HO722.out)) | ((with_reducible refine gate_callee (f := 12) rfl ?_); refine sh_call (some 162) Tryd.func12 #[.string (strOfNums y720)] ?_; (with_reducible refine (asm_Parse.calls k3 (strOfNums y720) t723 t724 t725 _ ?side1 ?side2 ?side3 ?side4 A68.out).mono ?_); (case side1 => repeat (first | exact (Kd.C_below HRG0.out HB.out) | (with_reducible refine Kd.C_alloc ?_ _) | (with_reducible refine Kd.C_drewN ?_ _) | (with_reducible refine Kd.C_drew ?_))); (case side2 => repeat (first | exact (Kd.C_below HRG1.out HB.out) | (with_reducible refine Kd.C_alloc ?_ _) | (with_reducible refine Kd.C_drewN ?_ _) | (with_reducible refine Kd.C_drew ?_))); (case side3 => repeat (first | exact (Kd.C_below HRG2.out HB.out) | (with_reducible refine Kd.C_alloc ?_ _) | (with_reducible refine Kd.C_drewN ?_ _) | (with_reducible refine Kd.C_drew ?_))); (case side4 => repeat (first | exact (Kd.C_below HRG3.out HB.out) | (with_reducible refine Kd.C_alloc ?_ _) | (with_reducible refine Kd.C_drewN ?_ _) | (with_reducible refine Kd.C_drew ?_))); rintro e w93 ⟨v726, rfl, ho0, hb⟩; refine ⟨_, rfl, ?_⟩; have HO727 := Aside0.mk (Kd.R_lower (Kd.R_new' (Kd.R_new' (Kd.R_new' ho0 (Kd.R_lt (by (with_reducible repeat (first | apply Kd.R_alloc | apply Kd.R_drewN | apply Kd.R_drew)); exact HO707.out))) (Kd.R_lt (by (with_reducible repeat (first | apply Kd.R_alloc | apply Kd.R_drewN | apply Kd.R_drew)); exact HO714.out))) (Kd.R_lt (by (with_reducible repeat (first | apply Kd.R_alloc | apply Kd.R_drewN | apply Kd.R_drew)); exact HO719.out))) (below_size b_now)); replace HO707 := Aside0.mk (Kd.R_elder' (by (with_reducible repeat (first | apply Kd.R_alloc | apply Kd.R_drewN | apply Kd.R_drew)); exact HO707.out) (Kd.R_base ho0) hb); replace HO714 := Aside0.mk (Kd.R_elder' (by (with_reducible repeat (first | apply Kd.R_alloc | apply Kd.R_drewN | apply Kd.R_drew)); exact HO714.out) (Kd.R_base ho0) hb); replace HO719 := Aside0.mk (Kd.R_elder' (by (with_reducible repeat (first | apply Kd.R_alloc | apply Kd.R_drewN | apply Kd.R_drew)); exact HO719.out) (Kd.R_base ho0) hb); replace HO722 := Aside0.mk (Kd.R_below (by (with_reducible repeat (first | apply Kd.R_alloc | apply Kd.R_drewN | apply Kd.R_drew)); exact HO722.out) hb); replace HB := sh_b (w := w) hb; (try clear hb); (try clear hb2); (try clear hk); (try clear hi); (try clear ho0)) | ((with_reducible refine gate_dst (N := 168) rfl ?_); (try (refine gate_guard (by rfl) ?_; dsimp only)); refine Kd.R_lit k37 _ 37 ?hg (N := 168) ?hd (xs := ([(⟨24, 0, 0, 0, 0⟩ : S37)] : List (S37))) (inner := [.int .u8 24, .int .u8 0, .int .u8 0, .int .i16 0, .int .i32 0]) (ok := fun _ => True) (okp := fun _ => True) ?hr ?hp (fun _ hk => hk) trivial (Below.refl _ _) (Nat.le_refl _) (by simp) ?_; (case hd => rfl); (case hg => rfl); (case hr => first | (go_simp; done) | (go_simp; rfl)); (case hp => exact (Reps.c5 (show Kd.M k37 _ _ _ (⟨24, 0, 0, 0, 0⟩ : S37) [.int .u8 24, .int .u8 0, .int .u8 0, .int .i16 0, .int .i32 0] from (k37_mkM _ _ _ (⟨24, 0, 0, 0, 0⟩ : S37) )) (Reps.none _ _))); intro v729 w94 ho95 hb hg_ hnew_; clear hg_ hnew_; (first | rw [← Ny728.out] at ho95 | (simp only [Int.reduceToNat] at ho95; rw [← Ny728.out] at ho95)); have HO730 := Aside0.mk (Kd.R_lower (Kd.R_new' (Kd.R_new' (Kd.R_new' (Kd.R_new' ho95 (Kd.R_lt (by (with_reducible repeat (first | apply Kd.R_alloc | apply Kd.R_drewN | apply Kd.R_drew)); exact HO707.out))) (Kd.R_lt (by (with_reducible repeat (first | apply Kd.R_alloc | apply Kd.R_drewN | apply Kd.R_drew)); exact HO714.out))) (Kd.R_lt (by (with_reducible repeat (first | apply Kd.R_alloc | apply Kd.R_drewN | apply Kd.R_drew)); exact HO719.out))) (Kd.R_lt (by (with_reducible repeat (first | apply Kd.R_alloc | apply Kd.R_drewN | apply Kd.R_drew)); exact HO727.out))) (below_size b_now)); replace HO707 := Aside0.mk (Kd.R_elder' (by (with_reducible repeat (first | apply Kd.R_alloc | apply Kd.R_drewN | apply Kd.R_drew)); exact HO707.out) (Kd.R_base ho95) hb); replace HO714 := Aside0.mk (Kd.R_elder' (by (with_reducible repeat (first | apply Kd.R_alloc | apply Kd.R_drewN | apply Kd.R_drew)); exact HO714.out) (Kd.R_base ho95) hb); replace HO719 := Aside0.mk (Kd.R_elder' (by (with_reducible repeat (first | apply Kd.R_alloc | apply Kd.R_drewN | apply Kd.R_drew)); exact HO719.out) (Kd.R_base ho95) hb); replace HO722 := Aside0.mk (Kd.R_below (by (with_reducible repeat (first | apply Kd.R_alloc | apply Kd.R_drewN | apply Kd.R_drew)); exact HO722.out) hb); replace HO727 := Aside0.mk (Kd.R_elder' (by (with_reducible repeat (first | apply Kd.R_alloc | apply Kd.R_drewN | apply Kd.R_drew)); exact HO727.out) (Kd.R_base ho95) hb); replace HB := sh_b (w := w) hb; clear hb ho95; obtain ⟨Ao96, co96, eo96⟩ := Kd.R_slice HO730.out; subst eo96) | ((with_reducible refine gate_callee (f := 9) rfl ?_); refine sh_call (some 169) Tryd.func9 #[.slice Ao96 y728.length co96] ?_; (with_reducible refine (asm_Print.calls k3 _ _ y728 t731 t732 _ ?side1 ?side2 ?side3 ?side4 ?side5 ?side6 A69.out).mono ?_); (case side1 => repeat (first | exact (Kd.R_reads' HO730.out).2.2 | (with_reducible refine Kd.C_alloc ?_ _) | (with_reducible refine Kd.C_drewN ?_ _) | (with_reducible refine Kd.C_drew ?_))); (case side2 => exact (Kd.R_reads' HO730.out).2.1); (case side3 => repeat (first | exact (Kd.C_below HRG0.out HB.out) | (with_reducible refine Kd.C_alloc ?_ _) | (with_reducible refine Kd.C_drewN ?_ _) | (with_reducible refine Kd.C_drew ?_))); (case side4 => repeat (first | exact (Kd.C_below HRG1.out HB.out) | (with_reducible refine Kd.C_alloc ?_ _) | (with_reducible refine Kd.C_drewN ?_ _) | (with_reducible refine Kd.C_drew ?_))); (case side5 => repeat (first | exact (Kd.C_below HRG2.out HB.out) | (with_reducible refine Kd.C_alloc ?_ _) | (with_reducible refine Kd.C_drewN ?_ _) | (with_reducible refine Kd.C_drew ?_))); (case side6 => repeat (first | exact (Kd.C_below HRG3.out HB.out) | (with_reducible refine Kd.C_alloc ?_ _) | (with_reducible refine Kd.C_drewN ?_ _) | (with_reducible refine Kd.C_drew ?_))); rintro e w97 ⟨rfl, hb⟩; refine ⟨_, rfl, ?_⟩; replace HO707 := Aside0.mk (Kd.R_below (by (with_reducible repeat (first | apply Kd.R_alloc | apply Kd.R_drewN | apply Kd.R_drew)); exact HO707.out) hb); replace HO714 := Aside0.mk (Kd.R_below (by (with_reducible repeat (first | apply Kd.R_alloc | apply Kd.R_drewN | apply Kd.R_drew)); exact HO714.out) hb); replace HO719 := Aside0.mk (Kd.R_below (by (with_reducible repeat (first | apply Kd.R_alloc | apply Kd.R_drewN | apply Kd.R_drew)); exact HO719.out) hb); replace HO722 := Aside0.mk (Kd.R_below (by (with_reducible repeat (first | apply Kd.R_alloc | apply Kd.R_drewN | apply Kd.R_drew)); exact HO722.out) hb); replace HO727 := Aside0.mk (Kd.R_below (by (with_reducible repeat (first | apply Kd.R_alloc | apply Kd.R_drewN | apply Kd.R_drew)); exact HO727.out) hb); replace HO730 := Aside0.mk (Kd.R_below (by (with_reducible repeat (first | apply Kd.R_alloc | apply Kd.R_drewN | apply Kd.R_drew)); exact HO730.out) hb); replace HB := sh_b (w := w) hb; (try clear hb); (try clear hb2); (try clear hk); (try clear hi)) | ((with_reducible refine gate_dst (N := 175) rfl ?_); (try (refine gate_guard (by rfl) ?_; dsimp only)); refine Kd.R_lit k37 _ 37 ?hg (N := 175) ?hd (xs := ([(⟨24, 0, 1, 0, 0⟩ : S37), (⟨0, 0, 0, 0, 1⟩ : S37)] : List (S37))) (inner := [.int .u8 24, .int .u8 0, .int .u8 1, .int .i16 0, .int .i32 0, .int .u8 0, .int .u8 0, .int .u8 0, .int .i16 0, .int .i32 1]) (ok := fun _ => True) (okp := fun _ => True) ?hr ?hp (fun _ hk => hk) trivial (Below.refl _ _) (Nat.le_refl _) (by simp) ?_; (case hd => rfl); (case hg => rfl); (case hr => first | (go_simp; done) | (go_simp; rfl)); (case hp => exact (Reps.c5 (show Kd.M k37 _ _ _ (⟨24, 0, 1, 0, 0⟩ : S37) [.int .u8 24, .int .u8 0, .int .u8 1, .int .i16 0, .int .i32 0] from (k37_mkM _ _ _ (⟨24, 0, 1, 0, 0⟩ : S37) )) (Reps.c5 (show Kd.M k37 _ _ _ (⟨0, 0, 0, 0, 1⟩ : S37) [.int .u8 0, .int .u8 0, .int .u8 0, .int .i16 0, .int .i32 1] from (k37_mkM _ _ _ (⟨0, 0, 0, 0, 1⟩ : S37) )) (Reps.none _ _)))); intro v734 w98 ho99 hb hg_ hnew_; clear hg_ hnew_; (first | rw [← Ny733.out] at ho99 | (simp only [Int.reduceToNat] at ho99; rw [← Ny733.out] at ho99)); have HO735 := Aside0.mk (Kd.R_lower (Kd.R_new' (Kd.R_new' (Kd.R_new' (Kd.R_new' (Kd.R_new' ho99 (Kd.R_lt (by (with_reducible repeat (first | apply Kd.R_alloc | apply Kd.R_drewN | apply Kd.R_drew)); exact HO707.out))) (Kd.R_lt (by (with_reducible repeat (first | apply Kd.R_alloc | apply Kd.R_drewN | apply Kd.R_drew)); exact HO714.out))) (Kd.R_lt (by (with_reducible repeat (first | apply Kd.R_alloc | apply Kd.R_drewN | apply Kd.R_drew)); exact HO719.out))) (Kd.R_lt (by (with_reducible repeat (first | apply Kd.R_alloc | apply Kd.R_drewN | apply Kd.R_drew)); exact HO727.out))) (Kd.R_lt (by (with_reducible repeat (first | apply Kd.R_alloc | apply Kd.R_drewN | apply Kd.R_drew)); exact HO730.out))) (below_size b_now)); replace HO707 := Aside0.mk (Kd.R_elder' (by (with_reducible repeat (first | apply Kd.R_alloc | apply Kd.R_drewN | apply Kd.R_drew)); exact HO707.out) (Kd.R_base ho99) hb); replace HO714 := Aside0.mk (Kd.R_elder' (by (with_reducible repeat (first | apply Kd.R_alloc | apply Kd.R_drewN | apply Kd.R_drew)); exact HO714.out) (Kd.R_base ho99) hb); replace HO719 := Aside0.mk (Kd.R_elder' (by (with_reducible repeat (first | apply Kd.R_alloc | apply Kd.R_drewN | apply Kd.R_drew)); exact HO719.out) (Kd.R_base ho99) hb); replace HO722 := Aside0.mk (Kd.R_below (by (with_reducible repeat (first | apply Kd.R_alloc | apply Kd.R_drewN | apply Kd.R_drew)); exact HO722.out) hb); replace HO727 := Aside0.mk (Kd.R_elder' (by (with_reducible repeat (first | apply Kd.R_alloc | apply Kd.R_drewN | apply Kd.R_drew)); exact HO727.out) (Kd.R_base ho99) hb); replace HO730 := Aside0.mk (Kd.R_elder' (by (with_reducible repeat (first | apply Kd.R_alloc | apply Kd.R_drewN | apply Kd.R_drew)); exact HO730.out) (Kd.R_base ho99) hb); replace HB := sh_b (w := w) hb; clear hb ho99; obtain ⟨Ao100, co100, eo100⟩ := Kd.R_slice HO735.out; subst eo100) | ((with_reducible refine gate_callee (f := 9) rfl ?_); refine sh_call (some 176) Tryd.func9 #[.slice Ao100 y733.length co100] ?_; (with_reducible refine (asm_Print.calls k3 _ _ y733 t736 t737 _ ?side1 ?side2 ?side3 ?side4 ?side5 ?side6 A70.out).mono ?_); (case side1 => repeat (first | exact (Kd.R_reads' HO735.out).2.2 | (with_reducible refine Kd.C_alloc ?_ _) | (with_reducible refine Kd.C_drewN ?_ _) | (with_reducible refine Kd.C_drew ?_))); (case side2 => exact (Kd.R_reads' HO735.out).2.1); (case side3 => repeat (first | exact (Kd.C_below HRG0.out HB.out) | (with_reducible refine Kd.C_alloc ?_ _) | (with_reducible refine Kd.C_drewN ?_ _) | (with_reducible refine Kd.C_drew ?_))); (case side4 => repeat (first | exact (Kd.C_below HRG1.out HB.out) | (with_reducible refine Kd.C_alloc ?_ _) | (with_reducible refine Kd.C_drewN ?_ _) | (with_reducible refine Kd.C_drew ?_))); (case side5 => repeat (first | exact (Kd.C_below HRG2.out HB.out) | (with_reducible refine Kd.C_alloc ?_ _) | (with_reducible refine Kd.C_drewN ?_ _) | (with_reducible refine Kd.C_drew ?_))); (case side6 => repeat (first | exact (Kd.C_below HRG3.out HB.out) | (with_reducible refine Kd.C_alloc ?_ _) | (with_reducible refine Kd.C_drewN ?_ _) | (with_reducible refine Kd.C_drew ?_))); rintro e w101 ⟨rfl, hb⟩; refine ⟨_, rfl, ?_⟩; replace HO707 := Aside0.mk (Kd.R_below (by (with_reducible repeat (first | apply Kd.R_alloc | apply Kd.R_drewN | apply Kd.R_drew)); exact HO707.out) hb); replace HO714 := Aside0.mk (Kd.R_below (by (with_reducible repeat (first | apply Kd.R_alloc | apply Kd.R_drewN | apply Kd.R_drew)); exact HO714.out) hb); replace HO719 := Aside0.mk (Kd.R_below (by (with_reducible repeat (first | apply Kd.R_alloc | apply Kd.R_drewN | apply Kd.R_drew)); exact HO719.out) hb); replace HO722 := Aside0.mk (Kd.R_below (by (with_reducible repeat (first | apply Kd.R_alloc | apply Kd.R_drewN | apply Kd.R_drew)); exact HO722.out) hb); replace HO727 := Aside0.mk (Kd.R_below (by (with_reducible repeat (first | apply Kd.R_alloc | apply Kd.R_drewN | apply Kd.R_drew)); exact HO727.out) hb); replace HO730 := Aside0.mk (Kd.R_below (by (with_reducible repeat (first | apply Kd.R_alloc | apply Kd.R_drewN | apply Kd.R_drew)); exact HO730.out) hb); replace HO735 := Aside0.mk (Kd.R_below (by (with_reducible repeat (first | apply Kd.R_alloc | apply Kd.R_drewN | apply Kd.R_drew)); exact HO735.out) hb); replace HB := sh_b (w := w) hb; (try clear hb); (try clear hb2); (try clear hk); (try clear hi); obtain ⟨Ao102, co102, eo102⟩ := Kd.R_slice HO714.out; subst eo102) | (go_at_call 8; (with_reducible refine (stockadelaw03_wakes.calls k3  t738 _ ?side1 ?side2 ?side3 ?side4 (by first | rfl | exact HRT.out) A82.out).mono ?_); (case side1 => repeat (first | exact (Kd.C_below HRG0.out HB.out) | (with_reducible refine Kd.C_alloc ?_ _) | (with_reducible refine Kd.C_drewN ?_ _) | (with_reducible refine Kd.C_drew ?_))); (case side2 => repeat (first | exact (Kd.C_below HRG1.out HB.out) | (with_reducible refine Kd.C_alloc ?_ _) | (with_reducible refine Kd.C_drewN ?_ _) | (with_reducible refine Kd.C_drew ?_))); (case side3 => repeat (first | exact (Kd.C_below HRG2.out HB.out) | (with_reducible refine Kd.C_alloc ?_ _) | (with_reducible refine Kd.C_drewN ?_ _) | (with_reducible refine Kd.C_drew ?_))); (case side4 => repeat (first | exact (Kd.C_below HRG3.out HB.out) | (with_reducible refine Kd.C_alloc ?_ _) | (with_reducible refine Kd.C_drewN ?_ _) | (with_reducible refine Kd.C_drew ?_))); rintro e w103 ⟨rfl, hb⟩; replace HO707 := Aside0.mk (Kd.R_below (by (with_reducible repeat (first | apply Kd.R_alloc | apply Kd.R_drewN | apply Kd.R_drew)); exact HO707.out) hb); replace HO714 := Aside0.mk (Kd.R_below (by (with_reducible repeat (first | apply Kd.R_alloc | apply Kd.R_drewN | apply Kd.R_drew)); exact HO714.out) hb); replace HO719 := Aside0.mk (Kd.R_below (by (with_reducible repeat (first | apply Kd.R_alloc | apply Kd.R_drewN | apply Kd.R_drew)); exact HO719.out) hb); replace HO722 := Aside0.mk (Kd.R_below (by (with_reducible repeat (first | apply Kd.R_alloc | apply Kd.R_drewN | apply Kd.R_drew)); exact HO722.out) hb); replace HO727 := Aside0.mk (Kd.R_below (by (with_reducible repeat (first | apply Kd.R_alloc | apply Kd.R_drewN | apply Kd.R_drew)); exact HO727.out) hb); replace HO730 := Aside0.mk (Kd.R_below (by (with_reducible repeat (first | apply Kd.R_alloc | apply Kd.R_drewN | apply Kd.R_drew)); exact HO730.out) hb); replace HO735 := Aside0.mk (Kd.R_below (by (with_reducible repeat (first | apply Kd.R_alloc | apply Kd.R_drewN | apply Kd.R_drew)); exact HO735.out) hb); replace HB := sh_b (w := w) hb; (try clear hb); (try clear hb2); (try clear hk); (try clear hi)))
                         go_ret
                         exact ⟨ret_now, b_now⟩
                        ·rw [if_neg c81] at H
                         obtain ⟨c81b0, c81b1⟩ := eqF c81
                         obtain rfl := Option.some.inj H
                         exact absurd HRT.out (by simp)
                       ·rw [if_neg c80] at H
                        obtain ⟨c80b0, c80b1⟩ := eqF c80
                        obtain rfl := Option.some.inj H
                        exact absurd HRT.out (by simp)
                      ·rw [if_neg c79] at H
                       obtain ⟨c79b0, c79b1⟩ := eqF c79
                       obtain rfl := Option.some.inj H
                       exact absurd HRT.out (by simp)
                     ·rw [if_neg c78] at H
                      obtain ⟨c78b0, c78b1⟩ := eqF c78
                      obtain rfl := Option.some.inj H
                      exact absurd HRT.out (by simp)
                    ·rw [if_neg c77] at H
                     obtain ⟨c77b0, c77b1⟩ := eqF c77
                     obtain rfl := Option.some.inj H
                     exact absurd HRT.out (by simp)
                   ·rw [if_neg c76] at H
                    obtain ⟨c76b0, c76b1⟩ := eqF c76
                    obtain rfl := Option.some.inj H
                    exact absurd HRT.out (by simp)
                  ·rw [if_neg c75] at H
                   obtain ⟨c75b0, c75b1⟩ := eqF c75
                   obtain rfl := Option.some.inj H
                   exact absurd HRT.out (by simp)
                 ·rw [if_neg c74] at H
                  obtain ⟨c74b0, c74b1⟩ := eqF c74
                  obtain rfl := Option.some.inj H
                  exact absurd HRT.out (by simp)
                ·rw [if_neg c73] at H
                 obtain ⟨c73b0, c73b1⟩ := eqF c73
                 obtain rfl := Option.some.inj H
                 exact absurd HRT.out (by simp)
               ·rw [if_neg c72] at H
                obtain ⟨c72b0, c72b1⟩ := eqF c72
                obtain rfl := Option.some.inj H
                exact absurd HRT.out (by simp)
              ·rw [if_neg c71] at H
               obtain ⟨c71b0, c71b1⟩ := eqF c71
               obtain rfl := Option.some.inj H
               exact absurd HRT.out (by simp)
             ·rw [if_neg c67] at H
              exact absurd H (by simp)
            ·rw [if_neg c65] at H
             exact absurd H (by simp)
           ·rw [if_neg c62] at H
            exact absurd H (by simp)
       ·rw [if_neg c52] at H
        exact absurd H (by simp)

end Go.Proofs.YtondogoepcndiaaDoor.P
