/- Made by this session's driver over the kit's printer: for each Go function a Lean function with the same answers, and a proof that the Go call comes to these answers; no conditions but the ones each theorem names. -/
import Derived.Test.YtighficpbplkhaaDoorPx0
import Derived.Test.YtighficpbplkhaaDoorPx22
import Derived.Test.YtighficpbplkhaaDoorPx24
namespace Go.Proofs.YtighficpbplkhaaDoor.P
open Go.RowKit Go.Proofs.YtighficpbplkhaaDoorW.PrintWords Go.Proofs.YtighficpbplkhaaDoorW.PrintLast Go.Proofs.YtighficpbplkhaaDoorW.PrintMore
attribute [local go_sem] max2_int min2_int max_two min_two max_three min_three max_four min_four   -- for this text's walks alone
set_option linter.unusedVariables false
set_option linter.unusedSimpArgs false

/-! ### stockaderef18_Line: function 34 -/
mutual
def stockaderef18_Line.l0 : Nat → ByteArray → Int → List (S55) → Int → Option (ByteArray)
 | 0, _, _, _, _ => none
 | k + 1, x3, x4, x320000, x320001 => if x4 < (x320000.length : Int) then (if 0 ≤ x4 then (if x4 > 0 then (if x3.size + 2 ≤ 9223372036854775807 then (stockaderef18_Line.j1 k (x3 ++ (⟨#[44, 32]⟩ : ByteArray)) x4 x320000 x320001 ((rd_T55 x320000 x4).f0) ((rd_T55 x320000 x4).f1) ((rd_T55 x320000 x4).f2) ((rd_T55 x320000 x4).f3) ((rd_T55 x320000 x4).f4) ((rd_T55 x320000 x4).f5) ((rd_T55 x320000 x4).f6)) else (none)) else (stockaderef18_Line.j1 k x3 x4 x320000 x320001 ((rd_T55 x320000 x4).f0) ((rd_T55 x320000 x4).f1) ((rd_T55 x320000 x4).f2) ((rd_T55 x320000 x4).f3) ((rd_T55 x320000 x4).f4) ((rd_T55 x320000 x4).f5) ((rd_T55 x320000 x4).f6))) else (none)) else (if (x320000.length : Int) = 0 then (if 3 + 4 ≤ 9223372036854775807 then ((stockaderef18_digits.f k (IntKind.u64.wrap (x320001))).bind fun t320 => (if 6 + t320.size ≤ 9223372036854775807 then (if (((⟨#[97, 110, 121]⟩ : ByteArray) ++ (⟨#[32, 45, 62, 32]⟩ : ByteArray)) ++ t320).size + 1 ≤ 9223372036854775807 then (some ((((⟨#[97, 110, 121]⟩ : ByteArray) ++ (⟨#[32, 45, 62, 32]⟩ : ByteArray)) ++ t320) ++ (⟨#[10]⟩ : ByteArray))) else (none)) else (none))) else (none)) else (if x3.size + 4 ≤ 9223372036854775807 then ((stockaderef18_digits.f k (IntKind.u64.wrap (x320001))).bind fun t321 => (if (x3 ++ (⟨#[32, 45, 62, 32]⟩ : ByteArray)).size + t321.size ≤ 9223372036854775807 then (if ((x3 ++ (⟨#[32, 45, 62, 32]⟩ : ByteArray)) ++ t321).size + 1 ≤ 9223372036854775807 then (some (((x3 ++ (⟨#[32, 45, 62, 32]⟩ : ByteArray)) ++ t321) ++ (⟨#[10]⟩ : ByteArray))) else (none)) else (none))) else (none)))
def stockaderef18_Line.j1 : Nat → ByteArray → Int → List (S55) → Int → Bool → Int → Int → Int → Int → Int → Int → Option (ByteArray)
 | 0, _, _, _, _, _, _, _, _, _, _, _ => none
 | k + 1, x3, x4, x320000, x320001, x324000, x324001, x324002, x324003, x324004, x324005, x324006 => if x324000 = true then (if x3.size + 4 ≤ 9223372036854775807 then (stockaderef18_Line.j2 k (x3 ++ (⟨#[110, 111, 116, 32]⟩ : ByteArray)) x4 x320000 x320001 x324000 x324001 x324002 x324003 x324004 x324005 x324006) else (none)) else (stockaderef18_Line.j2 k x3 x4 x320000 x320001 x324000 x324001 x324002 x324003 x324004 x324005 x324006)
def stockaderef18_Line.j2 : Nat → ByteArray → Int → List (S55) → Int → Bool → Int → Int → Int → Int → Int → Int → Option (ByteArray)
 | 0, _, _, _, _, _, _, _, _, _, _, _ => none
 | k + 1, x3, x4, x320000, x320001, x324000, x324001, x324002, x324003, x324004, x324005, x324006 => if x324001 = 1 then (if x3.size + 4 ≤ 9223372036854775807 then (stockaderef18_Line.j3 k (x3 ++ (⟨#[108, 101, 110, 32]⟩ : ByteArray)) x4 x320000 x320001 x324000 x324001 x324002 x324003 x324004 x324005 x324006) else (none)) else (stockaderef18_Line.j3 k x3 x4 x320000 x320001 x324000 x324001 x324002 x324003 x324004 x324005 x324006)
def stockaderef18_Line.j3 : Nat → ByteArray → Int → List (S55) → Int → Bool → Int → Int → Int → Int → Int → Int → Option (ByteArray)
 | 0, _, _, _, _, _, _, _, _, _, _, _ => none
 | k + 1, x3, x4, x320000, x320001, x324000, x324001, x324002, x324003, x324004, x324005, x324006 => if x324001 = 2 then (if x3.size + 3 ≤ 9223372036854775807 then (stockaderef18_Line.j4 k (x3 ++ (⟨#[105, 110, 32]⟩ : ByteArray)) x4 x320000 x320001 x324000 x324001 x324002 x324003 x324004 x324005 x324006) else (none)) else (stockaderef18_Line.j4 k x3 x4 x320000 x320001 x324000 x324001 x324002 x324003 x324004 x324005 x324006)
def stockaderef18_Line.j4 : Nat → ByteArray → Int → List (S55) → Int → Bool → Int → Int → Int → Int → Int → Int → Option (ByteArray)
 | 0, _, _, _, _, _, _, _, _, _, _, _ => none
 | k + 1, x3, x4, x320000, x320001, x324000, x324001, x324002, x324003, x324004, x324005, x324006 => if x324001 = 4 then (if x3.size + 5 ≤ 9223372036854775807 then (stockaderef18_Line.j5 k (x3 ++ (⟨#[112, 97, 115, 116, 32]⟩ : ByteArray)) x4 x320000 x320001 x324000 x324001 x324002 x324003 x324004 x324005 x324006) else (none)) else (stockaderef18_Line.j5 k x3 x4 x320000 x320001 x324000 x324001 x324002 x324003 x324004 x324005 x324006)
def stockaderef18_Line.j5 : Nat → ByteArray → Int → List (S55) → Int → Bool → Int → Int → Int → Int → Int → Int → Option (ByteArray)
 | 0, _, _, _, _, _, _, _, _, _, _, _ => none
 | k + 1, x3, x4, x320000, x320001, x324000, x324001, x324002, x324003, x324004, x324005, x324006 => if x324001 = 3 then (stockaderef18_Line.j6 k x3 x4 true x320000 x320001 x324000 x324001 x324002 x324003 x324004 x324005 x324006) else (stockaderef18_Line.j6 k x3 x4 (x324001 == 4) x320000 x320001 x324000 x324001 x324002 x324003 x324004 x324005 x324006)
def stockaderef18_Line.j6 : Nat → ByteArray → Int → Bool → List (S55) → Int → Bool → Int → Int → Int → Int → Int → Int → Option (ByteArray)
 | 0, _, _, _, _, _, _, _, _, _, _, _, _ => none
 | k + 1, x3, x4, x48, x320000, x320001, x324000, x324001, x324002, x324003, x324004, x324005, x324006 => if x48 = true then (if x3.size + 1 ≤ 9223372036854775807 then ((stockaderef18_digits.f k (IntKind.u64.wrap (wrap64 (8 * x324003)))).bind fun t324 => (if (x3 ++ (⟨#[117]⟩ : ByteArray)).size + t324.size ≤ 9223372036854775807 then (if ((x3 ++ (⟨#[117]⟩ : ByteArray)) ++ t324).size + 1 ≤ 9223372036854775807 then ((stockaderef18_digits.f k (IntKind.u64.wrap (x324002))).bind fun t325 => (if (((x3 ++ (⟨#[117]⟩ : ByteArray)) ++ t324) ++ (⟨#[64]⟩ : ByteArray)).size + t325.size ≤ 9223372036854775807 then ((stockaderef18_Full.f k x324003).bind fun t326 => (if x324004 = t326 then (if ((((x3 ++ (⟨#[117]⟩ : ByteArray)) ++ t324) ++ (⟨#[64]⟩ : ByteArray)) ++ t325).size + 1 ≤ 9223372036854775807 then ((stockaderef18_digits.f k x324005).bind fun t327 => (if (((((x3 ++ (⟨#[117]⟩ : ByteArray)) ++ t324) ++ (⟨#[64]⟩ : ByteArray)) ++ t325) ++ (⟨#[32]⟩ : ByteArray)).size + t327.size ≤ 9223372036854775807 then (if ((((((x3 ++ (⟨#[117]⟩ : ByteArray)) ++ t324) ++ (⟨#[64]⟩ : ByteArray)) ++ t325) ++ (⟨#[32]⟩ : ByteArray)) ++ t327).size + 2 ≤ 9223372036854775807 then ((stockaderef18_digits.f k x324006).bind fun t328 => (if (((((((x3 ++ (⟨#[117]⟩ : ByteArray)) ++ t324) ++ (⟨#[64]⟩ : ByteArray)) ++ t325) ++ (⟨#[32]⟩ : ByteArray)) ++ t327) ++ (⟨#[46, 46]⟩ : ByteArray)).size + t328.size ≤ 9223372036854775807 then (stockaderef18_Line.l0 k ((((((((x3 ++ (⟨#[117]⟩ : ByteArray)) ++ t324) ++ (⟨#[64]⟩ : ByteArray)) ++ t325) ++ (⟨#[32]⟩ : ByteArray)) ++ t327) ++ (⟨#[46, 46]⟩ : ByteArray)) ++ t328) (wrap64 (x4 + 1)) x320000 x320001) else (none))) else (none)) else (none))) else (none)) else (if ((((x3 ++ (⟨#[117]⟩ : ByteArray)) ++ t324) ++ (⟨#[64]⟩ : ByteArray)) ++ t325).size + 1 ≤ 9223372036854775807 then ((stockaderef18_digits.f k x324004).bind fun t329 => (if (((((x3 ++ (⟨#[117]⟩ : ByteArray)) ++ t324) ++ (⟨#[64]⟩ : ByteArray)) ++ t325) ++ (⟨#[47]⟩ : ByteArray)).size + t329.size ≤ 9223372036854775807 then (if ((((((x3 ++ (⟨#[117]⟩ : ByteArray)) ++ t324) ++ (⟨#[64]⟩ : ByteArray)) ++ t325) ++ (⟨#[47]⟩ : ByteArray)) ++ t329).size + 1 ≤ 9223372036854775807 then ((stockaderef18_digits.f k x324005).bind fun t330 => (if (((((((x3 ++ (⟨#[117]⟩ : ByteArray)) ++ t324) ++ (⟨#[64]⟩ : ByteArray)) ++ t325) ++ (⟨#[47]⟩ : ByteArray)) ++ t329) ++ (⟨#[32]⟩ : ByteArray)).size + t330.size ≤ 9223372036854775807 then (if ((((((((x3 ++ (⟨#[117]⟩ : ByteArray)) ++ t324) ++ (⟨#[64]⟩ : ByteArray)) ++ t325) ++ (⟨#[47]⟩ : ByteArray)) ++ t329) ++ (⟨#[32]⟩ : ByteArray)) ++ t330).size + 2 ≤ 9223372036854775807 then ((stockaderef18_digits.f k x324006).bind fun t331 => (if (((((((((x3 ++ (⟨#[117]⟩ : ByteArray)) ++ t324) ++ (⟨#[64]⟩ : ByteArray)) ++ t325) ++ (⟨#[47]⟩ : ByteArray)) ++ t329) ++ (⟨#[32]⟩ : ByteArray)) ++ t330) ++ (⟨#[46, 46]⟩ : ByteArray)).size + t331.size ≤ 9223372036854775807 then (stockaderef18_Line.l0 k ((((((((((x3 ++ (⟨#[117]⟩ : ByteArray)) ++ t324) ++ (⟨#[64]⟩ : ByteArray)) ++ t325) ++ (⟨#[47]⟩ : ByteArray)) ++ t329) ++ (⟨#[32]⟩ : ByteArray)) ++ t330) ++ (⟨#[46, 46]⟩ : ByteArray)) ++ t331) (wrap64 (x4 + 1)) x320000 x320001) else (none))) else (none)) else (none))) else (none)) else (none))) else (none)))) else (none))) else (none)) else (none))) else (none)) else ((stockaderef18_digits.f k x324005).bind fun t332 => (if x3.size + t332.size ≤ 9223372036854775807 then (if (x3 ++ t332).size + 2 ≤ 9223372036854775807 then ((stockaderef18_digits.f k x324006).bind fun t333 => (if ((x3 ++ t332) ++ (⟨#[46, 46]⟩ : ByteArray)).size + t333.size ≤ 9223372036854775807 then (stockaderef18_Line.l0 k (((x3 ++ t332) ++ (⟨#[46, 46]⟩ : ByteArray)) ++ t333) (wrap64 (x4 + 1)) x320000 x320001) else (none))) else (none)) else (none)))
end
def stockaderef18_Line.f (k : Nat) (l0_0 : List (S55)) (a0_1 : Int) : Option (ByteArray) := stockaderef18_Line.l0 k (⟨#[]⟩ : ByteArray) 0 l0_0 a0_1
theorem stockaderef18_Line.mono_l : ∀ k, (∀ y0 y1 y2 y3, LeO (stockaderef18_Line.l0 k y0 y1 y2 y3) (stockaderef18_Line.l0 (k + 1) y0 y1 y2 y3)) ∧ (∀ y0 y1 y2 y3 y4 y5 y6 y7 y8 y9 y10, LeO (stockaderef18_Line.j1 k y0 y1 y2 y3 y4 y5 y6 y7 y8 y9 y10) (stockaderef18_Line.j1 (k + 1) y0 y1 y2 y3 y4 y5 y6 y7 y8 y9 y10)) ∧ (∀ y0 y1 y2 y3 y4 y5 y6 y7 y8 y9 y10, LeO (stockaderef18_Line.j2 k y0 y1 y2 y3 y4 y5 y6 y7 y8 y9 y10) (stockaderef18_Line.j2 (k + 1) y0 y1 y2 y3 y4 y5 y6 y7 y8 y9 y10)) ∧ (∀ y0 y1 y2 y3 y4 y5 y6 y7 y8 y9 y10, LeO (stockaderef18_Line.j3 k y0 y1 y2 y3 y4 y5 y6 y7 y8 y9 y10) (stockaderef18_Line.j3 (k + 1) y0 y1 y2 y3 y4 y5 y6 y7 y8 y9 y10)) ∧ (∀ y0 y1 y2 y3 y4 y5 y6 y7 y8 y9 y10, LeO (stockaderef18_Line.j4 k y0 y1 y2 y3 y4 y5 y6 y7 y8 y9 y10) (stockaderef18_Line.j4 (k + 1) y0 y1 y2 y3 y4 y5 y6 y7 y8 y9 y10)) ∧ (∀ y0 y1 y2 y3 y4 y5 y6 y7 y8 y9 y10, LeO (stockaderef18_Line.j5 k y0 y1 y2 y3 y4 y5 y6 y7 y8 y9 y10) (stockaderef18_Line.j5 (k + 1) y0 y1 y2 y3 y4 y5 y6 y7 y8 y9 y10)) ∧ (∀ y0 y1 y2 y3 y4 y5 y6 y7 y8 y9 y10 y11, LeO (stockaderef18_Line.j6 k y0 y1 y2 y3 y4 y5 y6 y7 y8 y9 y10 y11) (stockaderef18_Line.j6 (k + 1) y0 y1 y2 y3 y4 y5 y6 y7 y8 y9 y10 y11))
 | 0 => ⟨fun _ _ _ _ r h => by simp [stockaderef18_Line.l0] at h, fun _ _ _ _ _ _ _ _ _ _ _ r h => by simp [stockaderef18_Line.j1] at h, fun _ _ _ _ _ _ _ _ _ _ _ r h => by simp [stockaderef18_Line.j2] at h, fun _ _ _ _ _ _ _ _ _ _ _ r h => by simp [stockaderef18_Line.j3] at h, fun _ _ _ _ _ _ _ _ _ _ _ r h => by simp [stockaderef18_Line.j4] at h, fun _ _ _ _ _ _ _ _ _ _ _ r h => by simp [stockaderef18_Line.j5] at h, fun _ _ _ _ _ _ _ _ _ _ _ _ r h => by simp [stockaderef18_Line.j6] at h⟩
 | k + 1 => by
  obtain ⟨ih0, ih1, ih2, ih3, ih4, ih5, ih6⟩ := stockaderef18_Line.mono_l k
  refine ⟨?_, ?_, ?_, ?_, ?_, ?_, ?_⟩
  ·intro y0 y1 y2 y3
   unfold stockaderef18_Line.l0
   repeat' first
   | (with_reducible exact ih0 _ _ _ _)
   | (with_reducible exact ih1 _ _ _ _ _ _ _ _ _ _ _)
   | (with_reducible exact ih2 _ _ _ _ _ _ _ _ _ _ _)
   | (with_reducible exact ih3 _ _ _ _ _ _ _ _ _ _ _)
   | (with_reducible exact ih4 _ _ _ _ _ _ _ _ _ _ _)
   | (with_reducible exact ih5 _ _ _ _ _ _ _ _ _ _ _)
   | (with_reducible exact ih6 _ _ _ _ _ _ _ _ _ _ _ _)
   | (with_reducible exact stockaderef18_Full.mono _ _)
   | (with_reducible exact stockaderef18_digits.mono _ _)
   | (with_reducible exact LeO.refl _)
   | (with_reducible exact LeO.none _)
   | (with_reducible refine LeO.ite ?_ ?_)
   | (with_reducible refine LeO.bind ?_ (fun _ => ?_))
   | exact ih0 _ _ _ _
   | exact ih1 _ _ _ _ _ _ _ _ _ _ _
   | exact ih2 _ _ _ _ _ _ _ _ _ _ _
   | exact ih3 _ _ _ _ _ _ _ _ _ _ _
   | exact ih4 _ _ _ _ _ _ _ _ _ _ _
   | exact ih5 _ _ _ _ _ _ _ _ _ _ _
   | exact ih6 _ _ _ _ _ _ _ _ _ _ _ _
   | exact stockaderef18_Full.mono _ _
   | exact stockaderef18_digits.mono _ _
   | exact LeO.none _
   | refine LeO.ite ?_ ?_
   | refine LeO.bind ?_ (fun _ => ?_)
  ·intro y0 y1 y2 y3 y4 y5 y6 y7 y8 y9 y10
   unfold stockaderef18_Line.j1
   repeat' first
   | (with_reducible exact ih0 _ _ _ _)
   | (with_reducible exact ih1 _ _ _ _ _ _ _ _ _ _ _)
   | (with_reducible exact ih2 _ _ _ _ _ _ _ _ _ _ _)
   | (with_reducible exact ih3 _ _ _ _ _ _ _ _ _ _ _)
   | (with_reducible exact ih4 _ _ _ _ _ _ _ _ _ _ _)
   | (with_reducible exact ih5 _ _ _ _ _ _ _ _ _ _ _)
   | (with_reducible exact ih6 _ _ _ _ _ _ _ _ _ _ _ _)
   | (with_reducible exact stockaderef18_Full.mono _ _)
   | (with_reducible exact stockaderef18_digits.mono _ _)
   | (with_reducible exact LeO.refl _)
   | (with_reducible exact LeO.none _)
   | (with_reducible refine LeO.ite ?_ ?_)
   | (with_reducible refine LeO.bind ?_ (fun _ => ?_))
   | exact ih0 _ _ _ _
   | exact ih1 _ _ _ _ _ _ _ _ _ _ _
   | exact ih2 _ _ _ _ _ _ _ _ _ _ _
   | exact ih3 _ _ _ _ _ _ _ _ _ _ _
   | exact ih4 _ _ _ _ _ _ _ _ _ _ _
   | exact ih5 _ _ _ _ _ _ _ _ _ _ _
   | exact ih6 _ _ _ _ _ _ _ _ _ _ _ _
   | exact stockaderef18_Full.mono _ _
   | exact stockaderef18_digits.mono _ _
   | exact LeO.none _
   | refine LeO.ite ?_ ?_
   | refine LeO.bind ?_ (fun _ => ?_)
  ·intro y0 y1 y2 y3 y4 y5 y6 y7 y8 y9 y10
   unfold stockaderef18_Line.j2
   repeat' first
   | (with_reducible exact ih0 _ _ _ _)
   | (with_reducible exact ih1 _ _ _ _ _ _ _ _ _ _ _)
   | (with_reducible exact ih2 _ _ _ _ _ _ _ _ _ _ _)
   | (with_reducible exact ih3 _ _ _ _ _ _ _ _ _ _ _)
   | (with_reducible exact ih4 _ _ _ _ _ _ _ _ _ _ _)
   | (with_reducible exact ih5 _ _ _ _ _ _ _ _ _ _ _)
   | (with_reducible exact ih6 _ _ _ _ _ _ _ _ _ _ _ _)
   | (with_reducible exact stockaderef18_Full.mono _ _)
   | (with_reducible exact stockaderef18_digits.mono _ _)
   | (with_reducible exact LeO.refl _)
   | (with_reducible exact LeO.none _)
   | (with_reducible refine LeO.ite ?_ ?_)
   | (with_reducible refine LeO.bind ?_ (fun _ => ?_))
   | exact ih0 _ _ _ _
   | exact ih1 _ _ _ _ _ _ _ _ _ _ _
   | exact ih2 _ _ _ _ _ _ _ _ _ _ _
   | exact ih3 _ _ _ _ _ _ _ _ _ _ _
   | exact ih4 _ _ _ _ _ _ _ _ _ _ _
   | exact ih5 _ _ _ _ _ _ _ _ _ _ _
   | exact ih6 _ _ _ _ _ _ _ _ _ _ _ _
   | exact stockaderef18_Full.mono _ _
   | exact stockaderef18_digits.mono _ _
   | exact LeO.none _
   | refine LeO.ite ?_ ?_
   | refine LeO.bind ?_ (fun _ => ?_)
  ·intro y0 y1 y2 y3 y4 y5 y6 y7 y8 y9 y10
   unfold stockaderef18_Line.j3
   repeat' first
   | (with_reducible exact ih0 _ _ _ _)
   | (with_reducible exact ih1 _ _ _ _ _ _ _ _ _ _ _)
   | (with_reducible exact ih2 _ _ _ _ _ _ _ _ _ _ _)
   | (with_reducible exact ih3 _ _ _ _ _ _ _ _ _ _ _)
   | (with_reducible exact ih4 _ _ _ _ _ _ _ _ _ _ _)
   | (with_reducible exact ih5 _ _ _ _ _ _ _ _ _ _ _)
   | (with_reducible exact ih6 _ _ _ _ _ _ _ _ _ _ _ _)
   | (with_reducible exact stockaderef18_Full.mono _ _)
   | (with_reducible exact stockaderef18_digits.mono _ _)
   | (with_reducible exact LeO.refl _)
   | (with_reducible exact LeO.none _)
   | (with_reducible refine LeO.ite ?_ ?_)
   | (with_reducible refine LeO.bind ?_ (fun _ => ?_))
   | exact ih0 _ _ _ _
   | exact ih1 _ _ _ _ _ _ _ _ _ _ _
   | exact ih2 _ _ _ _ _ _ _ _ _ _ _
   | exact ih3 _ _ _ _ _ _ _ _ _ _ _
   | exact ih4 _ _ _ _ _ _ _ _ _ _ _
   | exact ih5 _ _ _ _ _ _ _ _ _ _ _
   | exact ih6 _ _ _ _ _ _ _ _ _ _ _ _
   | exact stockaderef18_Full.mono _ _
   | exact stockaderef18_digits.mono _ _
   | exact LeO.none _
   | refine LeO.ite ?_ ?_
   | refine LeO.bind ?_ (fun _ => ?_)
  ·intro y0 y1 y2 y3 y4 y5 y6 y7 y8 y9 y10
   unfold stockaderef18_Line.j4
   repeat' first
   | (with_reducible exact ih0 _ _ _ _)
   | (with_reducible exact ih1 _ _ _ _ _ _ _ _ _ _ _)
   | (with_reducible exact ih2 _ _ _ _ _ _ _ _ _ _ _)
   | (with_reducible exact ih3 _ _ _ _ _ _ _ _ _ _ _)
   | (with_reducible exact ih4 _ _ _ _ _ _ _ _ _ _ _)
   | (with_reducible exact ih5 _ _ _ _ _ _ _ _ _ _ _)
   | (with_reducible exact ih6 _ _ _ _ _ _ _ _ _ _ _ _)
   | (with_reducible exact stockaderef18_Full.mono _ _)
   | (with_reducible exact stockaderef18_digits.mono _ _)
   | (with_reducible exact LeO.refl _)
   | (with_reducible exact LeO.none _)
   | (with_reducible refine LeO.ite ?_ ?_)
   | (with_reducible refine LeO.bind ?_ (fun _ => ?_))
   | exact ih0 _ _ _ _
   | exact ih1 _ _ _ _ _ _ _ _ _ _ _
   | exact ih2 _ _ _ _ _ _ _ _ _ _ _
   | exact ih3 _ _ _ _ _ _ _ _ _ _ _
   | exact ih4 _ _ _ _ _ _ _ _ _ _ _
   | exact ih5 _ _ _ _ _ _ _ _ _ _ _
   | exact ih6 _ _ _ _ _ _ _ _ _ _ _ _
   | exact stockaderef18_Full.mono _ _
   | exact stockaderef18_digits.mono _ _
   | exact LeO.none _
   | refine LeO.ite ?_ ?_
   | refine LeO.bind ?_ (fun _ => ?_)
  ·intro y0 y1 y2 y3 y4 y5 y6 y7 y8 y9 y10
   unfold stockaderef18_Line.j5
   repeat' first
   | (with_reducible exact ih0 _ _ _ _)
   | (with_reducible exact ih1 _ _ _ _ _ _ _ _ _ _ _)
   | (with_reducible exact ih2 _ _ _ _ _ _ _ _ _ _ _)
   | (with_reducible exact ih3 _ _ _ _ _ _ _ _ _ _ _)
   | (with_reducible exact ih4 _ _ _ _ _ _ _ _ _ _ _)
   | (with_reducible exact ih5 _ _ _ _ _ _ _ _ _ _ _)
   | (with_reducible exact ih6 _ _ _ _ _ _ _ _ _ _ _ _)
   | (with_reducible exact stockaderef18_Full.mono _ _)
   | (with_reducible exact stockaderef18_digits.mono _ _)
   | (with_reducible exact LeO.refl _)
   | (with_reducible exact LeO.none _)
   | (with_reducible refine LeO.ite ?_ ?_)
   | (with_reducible refine LeO.bind ?_ (fun _ => ?_))
   | exact ih0 _ _ _ _
   | exact ih1 _ _ _ _ _ _ _ _ _ _ _
   | exact ih2 _ _ _ _ _ _ _ _ _ _ _
   | exact ih3 _ _ _ _ _ _ _ _ _ _ _
   | exact ih4 _ _ _ _ _ _ _ _ _ _ _
   | exact ih5 _ _ _ _ _ _ _ _ _ _ _
   | exact ih6 _ _ _ _ _ _ _ _ _ _ _ _
   | exact stockaderef18_Full.mono _ _
   | exact stockaderef18_digits.mono _ _
   | exact LeO.none _
   | refine LeO.ite ?_ ?_
   | refine LeO.bind ?_ (fun _ => ?_)
  ·intro y0 y1 y2 y3 y4 y5 y6 y7 y8 y9 y10 y11
   unfold stockaderef18_Line.j6
   repeat' first
   | (with_reducible exact ih0 _ _ _ _)
   | (with_reducible exact ih1 _ _ _ _ _ _ _ _ _ _ _)
   | (with_reducible exact ih2 _ _ _ _ _ _ _ _ _ _ _)
   | (with_reducible exact ih3 _ _ _ _ _ _ _ _ _ _ _)
   | (with_reducible exact ih4 _ _ _ _ _ _ _ _ _ _ _)
   | (with_reducible exact ih5 _ _ _ _ _ _ _ _ _ _ _)
   | (with_reducible exact ih6 _ _ _ _ _ _ _ _ _ _ _ _)
   | (with_reducible exact stockaderef18_Full.mono _ _)
   | (with_reducible exact stockaderef18_digits.mono _ _)
   | (with_reducible exact LeO.refl _)
   | (with_reducible exact LeO.none _)
   | (with_reducible refine LeO.ite ?_ ?_)
   | (with_reducible refine LeO.bind ?_ (fun _ => ?_))
   | exact ih0 _ _ _ _
   | exact ih1 _ _ _ _ _ _ _ _ _ _ _
   | exact ih2 _ _ _ _ _ _ _ _ _ _ _
   | exact ih3 _ _ _ _ _ _ _ _ _ _ _
   | exact ih4 _ _ _ _ _ _ _ _ _ _ _
   | exact ih5 _ _ _ _ _ _ _ _ _ _ _
   | exact ih6 _ _ _ _ _ _ _ _ _ _ _ _
   | exact stockaderef18_Full.mono _ _
   | exact stockaderef18_digits.mono _ _
   | exact LeO.none _
   | refine LeO.ite ?_ ?_
   | refine LeO.bind ?_ (fun _ => ?_)
theorem stockaderef18_Line.mono : ∀ a0 a1 k, LeO (stockaderef18_Line.f k a0 a1) (stockaderef18_Line.f (k + 1) a0 a1) := by
 intro a0 a1 k
 obtain ⟨ih0, ih1, ih2, ih3, ih4, ih5, ih6⟩ := stockaderef18_Line.mono_l k
 unfold stockaderef18_Line.f
 repeat' first
   | (with_reducible exact ih0 _ _ _ _)
   | (with_reducible exact ih1 _ _ _ _ _ _ _ _ _ _ _)
   | (with_reducible exact ih2 _ _ _ _ _ _ _ _ _ _ _)
   | (with_reducible exact ih3 _ _ _ _ _ _ _ _ _ _ _)
   | (with_reducible exact ih4 _ _ _ _ _ _ _ _ _ _ _)
   | (with_reducible exact ih5 _ _ _ _ _ _ _ _ _ _ _)
   | (with_reducible exact ih6 _ _ _ _ _ _ _ _ _ _ _ _)
   | (with_reducible exact stockaderef18_Full.mono _ _)
   | (with_reducible exact stockaderef18_digits.mono _ _)
   | (with_reducible exact LeO.refl _)
   | (with_reducible exact LeO.none _)
   | (with_reducible refine LeO.ite ?_ ?_)
   | (with_reducible refine LeO.bind ?_ (fun _ => ?_))
   | exact ih0 _ _ _ _
   | exact ih1 _ _ _ _ _ _ _ _ _ _ _
   | exact ih2 _ _ _ _ _ _ _ _ _ _ _
   | exact ih3 _ _ _ _ _ _ _ _ _ _ _
   | exact ih4 _ _ _ _ _ _ _ _ _ _ _
   | exact ih5 _ _ _ _ _ _ _ _ _ _ _
   | exact ih6 _ _ _ _ _ _ _ _ _ _ _ _
   | exact stockaderef18_Full.mono _ _
   | exact stockaderef18_digits.mono _ _
   | exact LeO.none _
   | refine LeO.ite ?_ ?_
   | refine LeO.bind ?_ (fun _ => ?_)
def stockaderef18_Line.T17 : Bool × List (List Nat × List Nat) := (true, [([], []), ([0], [0]), ([], []), ([2], [2]), ([3], [3]), ([4], [4]), ([5], [5]), ([1, 6], [1, 6]), ([7], [7]), ([], []), ([9], [9]), ([10], [10]), ([11, 6], [11]), ([8, 12], [8, 12]), ([13, 12, 0, 1, 2, 3, 4, 5, 6, 7, 8, 9, 10, 11, 12, 13], [0, 13])])
def stockaderef18_Line.B17 : List Nat := [0, 1, 0, 4, 12, 28, 60, 127, 255, 0, 512, 1536, 3708, 8191, 16383]
theorem stockaderef18_Line.tab17 : rtab .any (opsOf Tryd.f34 17) = stockaderef18_Line.T17 := by kernel_rfl
theorem stockaderef18_Line.bits17 : waitsOk stockaderef18_Line.T17.2 stockaderef18_Line.B17 = true := by kernel_rfl
def stockaderef18_Line.T21 : Bool × List (List Nat × List Nat) := (true, [([], []), ([], []), ([1], [1]), ([2], [2]), ([0, 3], [0, 3]), ([4], [4]), ([], []), ([6], [6]), ([7, 3], [7]), ([5, 8], [5, 8]), ([9, 8, 0, 1, 2, 3, 4, 5, 6, 7, 8, 9], [0, 9])])
def stockaderef18_Line.B21 : List Nat := [0, 0, 2, 6, 15, 31, 0, 64, 206, 511, 1023]
theorem stockaderef18_Line.tab21 : rtab .any (opsOf Tryd.f34 21) = stockaderef18_Line.T21 := by kernel_rfl
theorem stockaderef18_Line.bits21 : waitsOk stockaderef18_Line.T21.2 stockaderef18_Line.B21 = true := by kernel_rfl
set_option maxHeartbeats 8000000 in
set_option maxRecDepth 100000 in
theorem stockaderef18_Line.calls (k : Nat) (A0_0 : Option Addr) (c0_0 : Nat) (l0_0 : List (S55)) (a0_1 : Int) (r : ByteArray) (w : World) (hr0_0 : Kd.C k55 w A0_0 l0_0.length l0_0) (hc0_0 : l0_0.length ≤ c0_0) (h : stockaderef18_Line.f k l0_0 a0_1 = some r) :
  Calls Tryd.prog 34 #[.agg #[.slice A0_0 l0_0.length c0_0, .int .u32 a0_1]] w fun e w' => e = .returned (.string r) ∧ Below w.heap.size w w' := by
 have hu46 := Tryd.underlying46
 have hu55 := Tryd.underlying55
 have HR0_0 := Aside0.mk hr0_0
 have HC0_0 := Aside0.mk hc0_0
 clear hr0_0 hc0_0
 have HB := Aside0.mk (Below.refl w.heap.size w)
 have H : (stockaderef18_Line.l0 k (⟨#[]⟩ : ByteArray) 0 l0_0 a0_1) = some r := h
 clear h
 have H' := Aside0.mk H
 clear H
 go_enter Tryd.func34, Tryd.ntmps34
 go_wp2_with (first | ((with_reducible refine gate_dst (N := 1) rfl ?_); refine sh_box 1 #[.slice A0_0 l0_0.length c0_0, .int .u32 a0_1] 46 ?_; intro gb319 hg w2 hbox hb; have GE319 := sh_z (w := w) hg; replace HB := sh_b (w := w) hb; have BK319 := Aside0.mk (hbox); clear hb hbox hg))
 go_loopg [3, 4] k (fun kq v3 v4 w' => ∃ (x3_1 : ByteArray) (x4_1 : Int), v3 = .string x3_1 ∧ v4 = .int .i64 x4_1 ∧ Aside0 (stockaderef18_Line.l0 kq x3_1 x4_1 l0_0 a0_1 = some r) ∧ Aside0 (kq ≤ k) ∧ Aside0 (w'.heap[gb319]? = some (.cells #[(.slice A0_0 l0_0.length c0_0), .int .u32 a0_1] 46 (0, 0))) ∧ Aside0 (Below w.heap.size w w'))
 case atStart => exact ⟨((⟨#[]⟩ : ByteArray)), (0), eq_now, eq_now, H', ⟨Nat.le_refl _⟩, ⟨bk_now⟩, ⟨b_now⟩⟩
 case round =>
  clear H'
  obtain ⟨x3_1, x4_1, rfl, rfl, HA, HK1, BK319, HB⟩ := hrel
  cases gk with
  | zero => exact absurd HA.out (by simp [stockaderef18_Line.l0])
  | succ k1 =>
   have H := HA.out
   clear HA
   simp only [stockaderef18_Line.l0] at H
   by_cases c3 : x4_1 < (l0_0.length : Int)
   ·rw [if_pos c3] at H
    have c3b0 : decide (x4_1 < (l0_0.length : Int)) = true := decide_eq_true c3
    clear c3
    by_cases c4 : 0 ≤ x4_1
    ·rw [if_pos c4] at H
     have c4b0 : decide (0 ≤ x4_1) = true := decide_eq_true c4
     clear c4
     have HC5 := Aside0.mk H
     clear H
     have hcz6 := blk_all2 BK319.out
     have p322 : 0 ≤ (x4_1 : Int) := of_decide_eq_true (by first | (with_reducible assumption) | assumption)
     have q322 : x4_1 < (l0_0.length : Int) := of_decide_eq_true (by first | (with_reducible assumption) | assumption)
     obtain ⟨ad322, e322, hx322_0, hx322_1, hx322_2, hx322_3, hx322_4, hx322_5, hx322_6⟩ := at_T55 HR0_0.out x4_1 p322 q322
     cases e322
     replace hx322_0 := (HB.out.cell (World.block_lt_of_cell? w _ hx322_0)).trans hx322_0
     replace hx322_1 := (HB.out.cell (World.block_lt_of_cell? w _ hx322_1)).trans hx322_1
     replace hx322_2 := (HB.out.cell (World.block_lt_of_cell? w _ hx322_2)).trans hx322_2
     replace hx322_3 := (HB.out.cell (World.block_lt_of_cell? w _ hx322_3)).trans hx322_3
     replace hx322_4 := (HB.out.cell (World.block_lt_of_cell? w _ hx322_4)).trans hx322_4
     replace hx322_5 := (HB.out.cell (World.block_lt_of_cell? w _ hx322_5)).trans hx322_5
     replace hx322_6 := (HB.out.cell (World.block_lt_of_cell? w _ hx322_6)).trans hx322_6
     replace p322 := eq_true p322
     replace q322 := eq_true q322
     go_upto_if 19 with (first | ((with_reducible refine gate_dst (N := 5) rfl ?_); refine sh_box 5 #[.bool false, .int .i64 0, .int .i64 0, .int .i64 0, .int .u64 0, .int .u64 0, .int .u64 0] 55 ?_; intro gb323 hg w7 hbox hb; have GE323 := sh_z (w := w) hg; have NB319_323 := sh_n BK319 hg; have NB323_319 := sh_s NB319_323; replace BK319 := sh_k BK319 hb; replace HB := sh_b (w := w) hb; have BK323 := Aside0.mk (hbox); clear hb hbox hg; have hnb8 := NB323_319.out; have hnc8 := NB319_323.out; have hcz9 := blk_all7 BK323.out))
     (try simp only [Act.put, List.setIfInBounds_toArray, List.set_cons_zero, List.set_cons_succ])
     go_cut [3] (fun v3 wc => ∃ (kq : Nat) (x3_4 : ByteArray), v3 = .string x3_4 ∧ Aside0 (stockaderef18_Line.j1 kq x3_4 x4_1 l0_0 a0_1 ((rd_T55 l0_0 x4_1).f0) ((rd_T55 l0_0 x4_1).f1) ((rd_T55 l0_0 x4_1).f2) ((rd_T55 l0_0 x4_1).f3) ((rd_T55 l0_0 x4_1).f4) ((rd_T55 l0_0 x4_1).f5) ((rd_T55 l0_0 x4_1).f6) = some r) ∧ Aside0 (kq ≤ k1) ∧ Aside0 (wc.heap[gb319]? = some (.cells #[(.slice (some ad322) l0_0.length c0_0), .int .u32 a0_1] 46 (0, 0))) ∧ Aside0 (wc.heap[gb323]? = some (.cells #[.bool ((rd_T55 l0_0 x4_1).f0), .int .i64 ((rd_T55 l0_0 x4_1).f1), .int .i64 ((rd_T55 l0_0 x4_1).f2), .int .i64 ((rd_T55 l0_0 x4_1).f3), .int .u64 ((rd_T55 l0_0 x4_1).f4), .int .u64 ((rd_T55 l0_0 x4_1).f5), .int .u64 ((rd_T55 l0_0 x4_1).f6)] 55 (0, 0))) ∧ Aside0 (Below w.heap.size w wc))
     case first =>
      have H := HC5.out
      clear HC5
      by_cases c10 : x4_1 > 0
      ·rw [if_pos c10] at H
       have c10b0 : decide (0 < x4_1) = true := decide_eq_true c10
       clear c10
       (first | rw [c10b0] | (simp only [i64_w, i32_w]; rw [c10b0]) | skip)
       by_cases c11 : x3_1.size + 2 ≤ 9223372036854775807
       ·rw [if_pos c11] at H
        have c11b0 := eq_true c11
        have c11b1 : decide (x3_1.size + 2 ≤ 9223372036854775807) = true := decide_eq_true c11
        try have c11b2 : (9223372036854775807 < x3_1.size + 2) = False := eq_false (Nat.not_lt.2 c11)
        have H' := Aside0.mk H
        clear H
        go_wp2
        go_meet
        case rel => exact ⟨_, (x3_1 ++ (⟨#[44, 32]⟩ : ByteArray)), eq_now, H', ⟨by have := HK1.out; first | omega | exact Nat.le_refl _⟩, ⟨bk_now⟩, ⟨bk_now⟩, ⟨b_now⟩⟩
       ·rw [if_neg c11] at H
        exact absurd H (by simp)
      ·rw [if_neg c10] at H
       have c10b0 : decide (0 < x4_1) = false := decide_eq_false c10
       clear c10
       (first | rw [c10b0] | (simp only [i64_w, i32_w]; rw [c10b0]) | skip)
       have H' := Aside0.mk H
       clear H
       go_wp2
       go_meet
       case rel => exact ⟨_, (x3_1), eq_now, H', ⟨by have := HK1.out; first | omega | exact Nat.le_refl _⟩, ⟨bk_now⟩, ⟨bk_now⟩, ⟨b_now⟩⟩
     case rest =>
      clear HC5
      clear c3b0 c4b0 hcz6 hcz9 hx322_0 hx322_1 hx322_2 hx322_3 hx322_4 hx322_5 hx322_6 p322 q322
      obtain ⟨kq, x3_4, rfl, HA, HJ4, BK319, BK323, HB⟩ := hcut
      cases kq with
      | zero => exact absurd HA.out (by simp [stockaderef18_Line.j1])
      | succ kj4 =>
       have H := HA.out
       clear HA
       simp only [stockaderef18_Line.j1] at H
       have HC12 := Aside0.mk H
       clear H
       have hnb13 := NB323_319.out
       have hnc13 := NB319_323.out
       have hcz14 := blk_all7 BK323.out
       go_upto_if 23 with (fail)
       go_cut [3] (fun v3 wc => ∃ (kq : Nat) (x3_11 : ByteArray), v3 = .string x3_11 ∧ Aside0 (stockaderef18_Line.j2 kq x3_11 x4_1 l0_0 a0_1 ((rd_T55 l0_0 x4_1).f0) ((rd_T55 l0_0 x4_1).f1) ((rd_T55 l0_0 x4_1).f2) ((rd_T55 l0_0 x4_1).f3) ((rd_T55 l0_0 x4_1).f4) ((rd_T55 l0_0 x4_1).f5) ((rd_T55 l0_0 x4_1).f6) = some r) ∧ Aside0 (kq ≤ kj4) ∧ Aside0 (wc.heap[gb319]? = some (.cells #[(.slice (some ad322) l0_0.length c0_0), .int .u32 a0_1] 46 (0, 0))) ∧ Aside0 (wc.heap[gb323]? = some (.cells #[.bool ((rd_T55 l0_0 x4_1).f0), .int .i64 ((rd_T55 l0_0 x4_1).f1), .int .i64 ((rd_T55 l0_0 x4_1).f2), .int .i64 ((rd_T55 l0_0 x4_1).f3), .int .u64 ((rd_T55 l0_0 x4_1).f4), .int .u64 ((rd_T55 l0_0 x4_1).f5), .int .u64 ((rd_T55 l0_0 x4_1).f6)] 55 (0, 0))) ∧ Aside0 (Below w.heap.size w wc))
       case first =>
        have H := HC12.out
        clear HC12
        by_cases c15 : ((rd_T55 l0_0 x4_1).f0) = true
        ·rw [if_pos c15] at H
         have c15b0 : ((rd_T55 l0_0 x4_1).f0) = true := c15
         clear c15
         (first | rw [c15b0] | (simp only [i64_w, i32_w]; rw [c15b0]) | skip)
         by_cases c16 : x3_4.size + 4 ≤ 9223372036854775807
         ·rw [if_pos c16] at H
          have c16b0 := eq_true c16
          have c16b1 : decide (x3_4.size + 4 ≤ 9223372036854775807) = true := decide_eq_true c16
          try have c16b2 : (9223372036854775807 < x3_4.size + 4) = False := eq_false (Nat.not_lt.2 c16)
          have H' := Aside0.mk H
          clear H
          go_wp2
          go_meet
          case rel => exact ⟨_, (x3_4 ++ (⟨#[110, 111, 116, 32]⟩ : ByteArray)), eq_now, H', ⟨by have := HK1.out; have := HJ4.out; first | omega | exact Nat.le_refl _⟩, ⟨bk_now⟩, ⟨bk_now⟩, ⟨b_now⟩⟩
         ·rw [if_neg c16] at H
          exact absurd H (by simp)
        ·rw [if_neg c15] at H
         have c15b0 : ((rd_T55 l0_0 x4_1).f0) = false := by simpa using c15
         clear c15
         (first | rw [c15b0] | (simp only [i64_w, i32_w]; rw [c15b0]) | skip)
         have H' := Aside0.mk H
         clear H
         go_wp2
         go_meet
         case rel => exact ⟨_, (x3_4), eq_now, H', ⟨by have := HK1.out; have := HJ4.out; first | omega | exact Nat.le_refl _⟩, ⟨bk_now⟩, ⟨bk_now⟩, ⟨b_now⟩⟩
       case rest =>
        clear HC12
        clear hcz14
        obtain ⟨kq, x3_11, rfl, HA, HJ11, BK319, BK323, HB⟩ := hcut
        cases kq with
        | zero => exact absurd HA.out (by simp [stockaderef18_Line.j2])
        | succ kj11 =>
         have H := HA.out
         clear HA
         simp only [stockaderef18_Line.j2] at H
         have HC17 := Aside0.mk H
         clear H
         have hnb18 := NB323_319.out
         have hnc18 := NB319_323.out
         have hcz19 := blk_all7 BK323.out
         go_upto_if 28 with (fail)
         go_cut [3] (fun v3 wc => ∃ (kq : Nat) (x3_16 : ByteArray), v3 = .string x3_16 ∧ Aside0 (stockaderef18_Line.j3 kq x3_16 x4_1 l0_0 a0_1 ((rd_T55 l0_0 x4_1).f0) ((rd_T55 l0_0 x4_1).f1) ((rd_T55 l0_0 x4_1).f2) ((rd_T55 l0_0 x4_1).f3) ((rd_T55 l0_0 x4_1).f4) ((rd_T55 l0_0 x4_1).f5) ((rd_T55 l0_0 x4_1).f6) = some r) ∧ Aside0 (kq ≤ kj11) ∧ Aside0 (wc.heap[gb319]? = some (.cells #[(.slice (some ad322) l0_0.length c0_0), .int .u32 a0_1] 46 (0, 0))) ∧ Aside0 (wc.heap[gb323]? = some (.cells #[.bool ((rd_T55 l0_0 x4_1).f0), .int .i64 ((rd_T55 l0_0 x4_1).f1), .int .i64 ((rd_T55 l0_0 x4_1).f2), .int .i64 ((rd_T55 l0_0 x4_1).f3), .int .u64 ((rd_T55 l0_0 x4_1).f4), .int .u64 ((rd_T55 l0_0 x4_1).f5), .int .u64 ((rd_T55 l0_0 x4_1).f6)] 55 (0, 0))) ∧ Aside0 (Below w.heap.size w wc))
         case first =>
          have H := HC17.out
          clear HC17
          by_cases c20 : ((rd_T55 l0_0 x4_1).f1) = 1
          ·rw [if_pos c20] at H
           have c20b0 : (((rd_T55 l0_0 x4_1).f1) == 1) = true := beq_iff_eq.mpr c20
           have c20b1 : (((rd_T55 l0_0 x4_1).f1) != 1) = false := bne_eq_false_iff_eq.mpr c20
           clear c20
           (first | rw [c20b0] | (simp only [i64_w, i32_w]; rw [c20b0]) | skip)
           by_cases c21 : x3_11.size + 4 ≤ 9223372036854775807
           ·rw [if_pos c21] at H
            have c21b0 := eq_true c21
            have c21b1 : decide (x3_11.size + 4 ≤ 9223372036854775807) = true := decide_eq_true c21
            try have c21b2 : (9223372036854775807 < x3_11.size + 4) = False := eq_false (Nat.not_lt.2 c21)
            have H' := Aside0.mk H
            clear H
            go_wp2
            go_meet
            case rel => exact ⟨_, (x3_11 ++ (⟨#[108, 101, 110, 32]⟩ : ByteArray)), eq_now, H', ⟨by have := HK1.out; have := HJ4.out; have := HJ11.out; first | omega | exact Nat.le_refl _⟩, ⟨bk_now⟩, ⟨bk_now⟩, ⟨b_now⟩⟩
           ·rw [if_neg c21] at H
            exact absurd H (by simp)
          ·rw [if_neg c20] at H
           have c20b0 : (((rd_T55 l0_0 x4_1).f1) == 1) = false := beq_eq_false_iff_ne.mpr c20
           have c20b1 : (((rd_T55 l0_0 x4_1).f1) != 1) = true := bne_iff_ne.mpr c20
           (first | rw [c20b0] | (simp only [i64_w, i32_w]; rw [c20b0]) | skip)
           have H' := Aside0.mk H
           clear H
           go_wp2
           go_meet
           case rel => exact ⟨_, (x3_11), eq_now, H', ⟨by have := HK1.out; have := HJ4.out; have := HJ11.out; first | omega | exact Nat.le_refl _⟩, ⟨bk_now⟩, ⟨bk_now⟩, ⟨b_now⟩⟩
         case rest =>
          clear HC17
          clear hcz19
          obtain ⟨kq, x3_16, rfl, HA, HJ16, BK319, BK323, HB⟩ := hcut
          cases kq with
          | zero => exact absurd HA.out (by simp [stockaderef18_Line.j3])
          | succ kj16 =>
           have H := HA.out
           clear HA
           simp only [stockaderef18_Line.j3] at H
           have HC22 := Aside0.mk H
           clear H
           have hnb23 := NB323_319.out
           have hnc23 := NB319_323.out
           have hcz24 := blk_all7 BK323.out
           go_upto_if 33 with (fail)
           go_cut [3] (fun v3 wc => ∃ (kq : Nat) (x3_21 : ByteArray), v3 = .string x3_21 ∧ Aside0 (stockaderef18_Line.j4 kq x3_21 x4_1 l0_0 a0_1 ((rd_T55 l0_0 x4_1).f0) ((rd_T55 l0_0 x4_1).f1) ((rd_T55 l0_0 x4_1).f2) ((rd_T55 l0_0 x4_1).f3) ((rd_T55 l0_0 x4_1).f4) ((rd_T55 l0_0 x4_1).f5) ((rd_T55 l0_0 x4_1).f6) = some r) ∧ Aside0 (kq ≤ kj16) ∧ Aside0 (wc.heap[gb319]? = some (.cells #[(.slice (some ad322) l0_0.length c0_0), .int .u32 a0_1] 46 (0, 0))) ∧ Aside0 (wc.heap[gb323]? = some (.cells #[.bool ((rd_T55 l0_0 x4_1).f0), .int .i64 ((rd_T55 l0_0 x4_1).f1), .int .i64 ((rd_T55 l0_0 x4_1).f2), .int .i64 ((rd_T55 l0_0 x4_1).f3), .int .u64 ((rd_T55 l0_0 x4_1).f4), .int .u64 ((rd_T55 l0_0 x4_1).f5), .int .u64 ((rd_T55 l0_0 x4_1).f6)] 55 (0, 0))) ∧ Aside0 (Below w.heap.size w wc))
           case first =>
            have H := HC22.out
            clear HC22
            by_cases c25 : ((rd_T55 l0_0 x4_1).f1) = 2
            ·rw [if_pos c25] at H
             have c25b0 : (((rd_T55 l0_0 x4_1).f1) == 2) = true := beq_iff_eq.mpr c25
             have c25b1 : (((rd_T55 l0_0 x4_1).f1) != 2) = false := bne_eq_false_iff_eq.mpr c25
             clear c25
             (first | rw [c25b0] | (simp only [i64_w, i32_w]; rw [c25b0]) | skip)
             by_cases c26 : x3_16.size + 3 ≤ 9223372036854775807
             ·rw [if_pos c26] at H
              have c26b0 := eq_true c26
              have c26b1 : decide (x3_16.size + 3 ≤ 9223372036854775807) = true := decide_eq_true c26
              try have c26b2 : (9223372036854775807 < x3_16.size + 3) = False := eq_false (Nat.not_lt.2 c26)
              have H' := Aside0.mk H
              clear H
              go_wp2
              go_meet
              case rel => exact ⟨_, (x3_16 ++ (⟨#[105, 110, 32]⟩ : ByteArray)), eq_now, H', ⟨by have := HK1.out; have := HJ4.out; have := HJ11.out; have := HJ16.out; first | omega | exact Nat.le_refl _⟩, ⟨bk_now⟩, ⟨bk_now⟩, ⟨b_now⟩⟩
             ·rw [if_neg c26] at H
              exact absurd H (by simp)
            ·rw [if_neg c25] at H
             have c25b0 : (((rd_T55 l0_0 x4_1).f1) == 2) = false := beq_eq_false_iff_ne.mpr c25
             have c25b1 : (((rd_T55 l0_0 x4_1).f1) != 2) = true := bne_iff_ne.mpr c25
             (first | rw [c25b0] | (simp only [i64_w, i32_w]; rw [c25b0]) | skip)
             have H' := Aside0.mk H
             clear H
             go_wp2
             go_meet
             case rel => exact ⟨_, (x3_16), eq_now, H', ⟨by have := HK1.out; have := HJ4.out; have := HJ11.out; have := HJ16.out; first | omega | exact Nat.le_refl _⟩, ⟨bk_now⟩, ⟨bk_now⟩, ⟨b_now⟩⟩
           case rest =>
            clear HC22
            clear hcz24
            obtain ⟨kq, x3_21, rfl, HA, HJ21, BK319, BK323, HB⟩ := hcut
            cases kq with
            | zero => exact absurd HA.out (by simp [stockaderef18_Line.j4])
            | succ kj21 =>
             have H := HA.out
             clear HA
             simp only [stockaderef18_Line.j4] at H
             have HC27 := Aside0.mk H
             clear H
             have hnb28 := NB323_319.out
             have hnc28 := NB319_323.out
             have hcz29 := blk_all7 BK323.out
             go_upto_if 38 with (fail)
             go_cut [3] (fun v3 wc => ∃ (kq : Nat) (x3_26 : ByteArray), v3 = .string x3_26 ∧ Aside0 (stockaderef18_Line.j5 kq x3_26 x4_1 l0_0 a0_1 ((rd_T55 l0_0 x4_1).f0) ((rd_T55 l0_0 x4_1).f1) ((rd_T55 l0_0 x4_1).f2) ((rd_T55 l0_0 x4_1).f3) ((rd_T55 l0_0 x4_1).f4) ((rd_T55 l0_0 x4_1).f5) ((rd_T55 l0_0 x4_1).f6) = some r) ∧ Aside0 (kq ≤ kj21) ∧ Aside0 (wc.heap[gb319]? = some (.cells #[(.slice (some ad322) l0_0.length c0_0), .int .u32 a0_1] 46 (0, 0))) ∧ Aside0 (wc.heap[gb323]? = some (.cells #[.bool ((rd_T55 l0_0 x4_1).f0), .int .i64 ((rd_T55 l0_0 x4_1).f1), .int .i64 ((rd_T55 l0_0 x4_1).f2), .int .i64 ((rd_T55 l0_0 x4_1).f3), .int .u64 ((rd_T55 l0_0 x4_1).f4), .int .u64 ((rd_T55 l0_0 x4_1).f5), .int .u64 ((rd_T55 l0_0 x4_1).f6)] 55 (0, 0))) ∧ Aside0 (Below w.heap.size w wc))
             case first =>
              have H := HC27.out
              clear HC27
              by_cases c30 : ((rd_T55 l0_0 x4_1).f1) = 4
              ·rw [if_pos c30] at H
               have c30b0 : (((rd_T55 l0_0 x4_1).f1) == 4) = true := beq_iff_eq.mpr c30
               have c30b1 : (((rd_T55 l0_0 x4_1).f1) != 4) = false := bne_eq_false_iff_eq.mpr c30
               clear c30
               (first | rw [c30b0] | (simp only [i64_w, i32_w]; rw [c30b0]) | skip)
               by_cases c31 : x3_21.size + 5 ≤ 9223372036854775807
               ·rw [if_pos c31] at H
                have c31b0 := eq_true c31
                have c31b1 : decide (x3_21.size + 5 ≤ 9223372036854775807) = true := decide_eq_true c31
                try have c31b2 : (9223372036854775807 < x3_21.size + 5) = False := eq_false (Nat.not_lt.2 c31)
                have H' := Aside0.mk H
                clear H
                go_wp2
                go_meet
                case rel => exact ⟨_, (x3_21 ++ (⟨#[112, 97, 115, 116, 32]⟩ : ByteArray)), eq_now, H', ⟨by have := HK1.out; have := HJ4.out; have := HJ11.out; have := HJ16.out; have := HJ21.out; first | omega | exact Nat.le_refl _⟩, ⟨bk_now⟩, ⟨bk_now⟩, ⟨b_now⟩⟩
               ·rw [if_neg c31] at H
                exact absurd H (by simp)
              ·rw [if_neg c30] at H
               have c30b0 : (((rd_T55 l0_0 x4_1).f1) == 4) = false := beq_eq_false_iff_ne.mpr c30
               have c30b1 : (((rd_T55 l0_0 x4_1).f1) != 4) = true := bne_iff_ne.mpr c30
               (first | rw [c30b0] | (simp only [i64_w, i32_w]; rw [c30b0]) | skip)
               have H' := Aside0.mk H
               clear H
               go_wp2
               go_meet
               case rel => exact ⟨_, (x3_21), eq_now, H', ⟨by have := HK1.out; have := HJ4.out; have := HJ11.out; have := HJ16.out; have := HJ21.out; first | omega | exact Nat.le_refl _⟩, ⟨bk_now⟩, ⟨bk_now⟩, ⟨b_now⟩⟩
             case rest =>
              clear HC27
              clear hcz29
              obtain ⟨kq, x3_26, rfl, HA, HJ26, BK319, BK323, HB⟩ := hcut
              cases kq with
              | zero => exact absurd HA.out (by simp [stockaderef18_Line.j5])
              | succ kj26 =>
               have H := HA.out
               clear HA
               simp only [stockaderef18_Line.j5] at H
               have HC32 := Aside0.mk H
               clear H
               go_upto_region 16 with (fail)
               go_cut [48] (fun v48 wc => ∃ (kq : Nat) (x48_31 : Bool), v48 = .bool x48_31 ∧ Aside0 (stockaderef18_Line.j6 kq x3_26 x4_1 x48_31 l0_0 a0_1 ((rd_T55 l0_0 x4_1).f0) ((rd_T55 l0_0 x4_1).f1) ((rd_T55 l0_0 x4_1).f2) ((rd_T55 l0_0 x4_1).f3) ((rd_T55 l0_0 x4_1).f4) ((rd_T55 l0_0 x4_1).f5) ((rd_T55 l0_0 x4_1).f6) = some r) ∧ Aside0 (kq ≤ kj26) ∧ Aside0 (wc.heap[gb319]? = some (.cells #[(.slice (some ad322) l0_0.length c0_0), .int .u32 a0_1] 46 (0, 0))) ∧ Aside0 (wc.heap[gb323]? = some (.cells #[.bool ((rd_T55 l0_0 x4_1).f0), .int .i64 ((rd_T55 l0_0 x4_1).f1), .int .i64 ((rd_T55 l0_0 x4_1).f2), .int .i64 ((rd_T55 l0_0 x4_1).f3), .int .u64 ((rd_T55 l0_0 x4_1).f4), .int .u64 ((rd_T55 l0_0 x4_1).f5), .int .u64 ((rd_T55 l0_0 x4_1).f6)] 55 (0, 0))) ∧ Aside0 (Below w.heap.size w wc))
               case first =>
                have H := HC32.out
                clear HC32
                by_cases c33 : ((rd_T55 l0_0 x4_1).f1) = 3
                ·rw [if_pos c33] at H
                 have c33b0 : (((rd_T55 l0_0 x4_1).f1) == 3) = true := beq_iff_eq.mpr c33
                 have c33b1 : (((rd_T55 l0_0 x4_1).f1) != 3) = false := bne_eq_false_iff_eq.mpr c33
                 clear c33
                 (first | rw [c33b0] | (simp only [i64_w, i32_w]; rw [c33b0]) | skip)
                 have H' := Aside0.mk H
                 clear H
                 have hnb34 := NB323_319.out
                 have hnc34 := NB319_323.out
                 have hcz35 := blk_all7 BK323.out
                 go_wp2
                 go_meet
                 case rel => exact ⟨_, (true), eq_now, H', ⟨by have := HK1.out; have := HJ4.out; have := HJ11.out; have := HJ16.out; have := HJ21.out; have := HJ26.out; first | omega | exact Nat.le_refl _⟩, ⟨bk_now⟩, ⟨bk_now⟩, ⟨b_now⟩⟩
                ·rw [if_neg c33] at H
                 have c33b0 : (((rd_T55 l0_0 x4_1).f1) == 3) = false := beq_eq_false_iff_ne.mpr c33
                 have c33b1 : (((rd_T55 l0_0 x4_1).f1) != 3) = true := bne_iff_ne.mpr c33
                 (first | rw [c33b0] | (simp only [i64_w, i32_w]; rw [c33b0]) | skip)
                 have H' := Aside0.mk H
                 clear H
                 have hnb36 := NB323_319.out
                 have hnc36 := NB319_323.out
                 have hcz37 := blk_all7 BK323.out
                 go_wp2
                 go_meet
                 case rel => exact ⟨_, ((((rd_T55 l0_0 x4_1).f1) == 4)), eq_now, H', ⟨by have := HK1.out; have := HJ4.out; have := HJ11.out; have := HJ16.out; have := HJ21.out; have := HJ26.out; first | omega | exact Nat.le_refl _⟩, ⟨bk_now⟩, ⟨bk_now⟩, ⟨b_now⟩⟩
               case rest =>
                clear HC32
                obtain ⟨kq, x48_31, rfl, HA, HJ31, BK319, BK323, HB⟩ := hcut
                cases kq with
                | zero => exact absurd HA.out (by simp [stockaderef18_Line.j6])
                | succ kj31 =>
                 have H := HA.out
                 clear HA
                 simp only [stockaderef18_Line.j6] at H
                 by_cases c38 : x48_31 = true
                 ·subst c38
                  replace H := sh_t H
                  by_cases c39 : x3_26.size + 1 ≤ 9223372036854775807
                  ·rw [if_pos c39] at H
                   have c39b0 := eq_true c39
                   have c39b1 : decide (x3_26.size + 1 ≤ 9223372036854775807) = true := decide_eq_true c39
                   try have c39b2 : (9223372036854775807 < x3_26.size + 1) = False := eq_false (Nat.not_lt.2 c39)
                   replace H := Option.bind_eq_some_iff.mp H; obtain ⟨t324, A400, H⟩ := H; try dsimp only at H
                   have A40 := Aside0.mk A400
                   clear A400
                   by_cases c41 : (x3_26 ++ (⟨#[117]⟩ : ByteArray)).size + t324.size ≤ 9223372036854775807
                   ·rw [if_pos c41] at H
                    have c41b0 := eq_true c41
                    have c41_y0 : ((9223372036854775807 < x3_26.size + 1 + t324.size) : Prop) = False := eq_false (by have h_ := c41; simp only [ByteArray.size_append] at h_; exact Nat.not_lt.2 h_)
                    have c41_z0 : ((x3_26.size + 1 + t324.size ≤ 9223372036854775807) : Prop) = True := eq_true (by have h_ := c41; simp only [ByteArray.size_append] at h_; exact h_)
                    have c41b1 : decide ((x3_26 ++ (⟨#[117]⟩ : ByteArray)).size + t324.size ≤ 9223372036854775807) = true := decide_eq_true c41
                    try have c41b2 : (9223372036854775807 < (x3_26 ++ (⟨#[117]⟩ : ByteArray)).size + t324.size) = False := eq_false (Nat.not_lt.2 c41)
                    by_cases c42 : ((x3_26 ++ (⟨#[117]⟩ : ByteArray)) ++ t324).size + 1 ≤ 9223372036854775807
                    ·rw [if_pos c42] at H
                     have c42b0 := eq_true c42
                     have c42_y0 : ((9223372036854775807 < x3_26.size + 1 + t324.size + 1) : Prop) = False := eq_false (by have h_ := c42; simp only [ByteArray.size_append] at h_; exact Nat.not_lt.2 h_)
                     have c42_z0 : ((x3_26.size + 1 + t324.size + 1 ≤ 9223372036854775807) : Prop) = True := eq_true (by have h_ := c42; simp only [ByteArray.size_append] at h_; exact h_)
                     have c42b1 : decide (((x3_26 ++ (⟨#[117]⟩ : ByteArray)) ++ t324).size + 1 ≤ 9223372036854775807) = true := decide_eq_true c42
                     try have c42b2 : (9223372036854775807 < ((x3_26 ++ (⟨#[117]⟩ : ByteArray)) ++ t324).size + 1) = False := eq_false (Nat.not_lt.2 c42)
                     replace H := Option.bind_eq_some_iff.mp H; obtain ⟨t325, A430, H⟩ := H; try dsimp only at H
                     have A43 := Aside0.mk A430
                     clear A430
                     by_cases c44 : (((x3_26 ++ (⟨#[117]⟩ : ByteArray)) ++ t324) ++ (⟨#[64]⟩ : ByteArray)).size + t325.size ≤ 9223372036854775807
                     ·rw [if_pos c44] at H
                      have c44b0 := eq_true c44
                      have c44_y0 : ((9223372036854775807 < x3_26.size + 1 + t324.size + 1 + t325.size) : Prop) = False := eq_false (by have h_ := c44; simp only [ByteArray.size_append] at h_; exact Nat.not_lt.2 h_)
                      have c44_z0 : ((x3_26.size + 1 + t324.size + 1 + t325.size ≤ 9223372036854775807) : Prop) = True := eq_true (by have h_ := c44; simp only [ByteArray.size_append] at h_; exact h_)
                      have c44b1 : decide ((((x3_26 ++ (⟨#[117]⟩ : ByteArray)) ++ t324) ++ (⟨#[64]⟩ : ByteArray)).size + t325.size ≤ 9223372036854775807) = true := decide_eq_true c44
                      try have c44b2 : (9223372036854775807 < (((x3_26 ++ (⟨#[117]⟩ : ByteArray)) ++ t324) ++ (⟨#[64]⟩ : ByteArray)).size + t325.size) = False := eq_false (Nat.not_lt.2 c44)
                      replace H := Option.bind_eq_some_iff.mp H; obtain ⟨t326, A450, H⟩ := H; try dsimp only at H
                      have A45 := Aside0.mk A450
                      clear A450
                      by_cases c46 : ((rd_T55 l0_0 x4_1).f4) = t326
                      ·rw [if_pos c46] at H
                       have c46b0 : (((rd_T55 l0_0 x4_1).f4) == t326) = true := beq_iff_eq.mpr c46
                       have c46b1 : (((rd_T55 l0_0 x4_1).f4) != t326) = false := bne_eq_false_iff_eq.mpr c46
                       clear c46
                       by_cases c47 : ((((x3_26 ++ (⟨#[117]⟩ : ByteArray)) ++ t324) ++ (⟨#[64]⟩ : ByteArray)) ++ t325).size + 1 ≤ 9223372036854775807
                       ·rw [if_pos c47] at H
                        have c47b0 := eq_true c47
                        have c47_y0 : ((9223372036854775807 < x3_26.size + 1 + t324.size + 1 + t325.size + 1) : Prop) = False := eq_false (by have h_ := c47; simp only [ByteArray.size_append] at h_; exact Nat.not_lt.2 h_)
                        have c47_z0 : ((x3_26.size + 1 + t324.size + 1 + t325.size + 1 ≤ 9223372036854775807) : Prop) = True := eq_true (by have h_ := c47; simp only [ByteArray.size_append] at h_; exact h_)
                        have c47b1 : decide (((((x3_26 ++ (⟨#[117]⟩ : ByteArray)) ++ t324) ++ (⟨#[64]⟩ : ByteArray)) ++ t325).size + 1 ≤ 9223372036854775807) = true := decide_eq_true c47
                        try have c47b2 : (9223372036854775807 < ((((x3_26 ++ (⟨#[117]⟩ : ByteArray)) ++ t324) ++ (⟨#[64]⟩ : ByteArray)) ++ t325).size + 1) = False := eq_false (Nat.not_lt.2 c47)
                        replace H := Option.bind_eq_some_iff.mp H; obtain ⟨t327, A480, H⟩ := H; try dsimp only at H
                        have A48 := Aside0.mk A480
                        clear A480
                        by_cases c49 : (((((x3_26 ++ (⟨#[117]⟩ : ByteArray)) ++ t324) ++ (⟨#[64]⟩ : ByteArray)) ++ t325) ++ (⟨#[32]⟩ : ByteArray)).size + t327.size ≤ 9223372036854775807
                        ·rw [if_pos c49] at H
                         have c49b0 := eq_true c49
                         have c49_y0 : ((9223372036854775807 < x3_26.size + 1 + t324.size + 1 + t325.size + 1 + t327.size) : Prop) = False := eq_false (by have h_ := c49; simp only [ByteArray.size_append] at h_; exact Nat.not_lt.2 h_)
                         have c49_z0 : ((x3_26.size + 1 + t324.size + 1 + t325.size + 1 + t327.size ≤ 9223372036854775807) : Prop) = True := eq_true (by have h_ := c49; simp only [ByteArray.size_append] at h_; exact h_)
                         have c49b1 : decide ((((((x3_26 ++ (⟨#[117]⟩ : ByteArray)) ++ t324) ++ (⟨#[64]⟩ : ByteArray)) ++ t325) ++ (⟨#[32]⟩ : ByteArray)).size + t327.size ≤ 9223372036854775807) = true := decide_eq_true c49
                         try have c49b2 : (9223372036854775807 < (((((x3_26 ++ (⟨#[117]⟩ : ByteArray)) ++ t324) ++ (⟨#[64]⟩ : ByteArray)) ++ t325) ++ (⟨#[32]⟩ : ByteArray)).size + t327.size) = False := eq_false (Nat.not_lt.2 c49)
                         by_cases c50 : ((((((x3_26 ++ (⟨#[117]⟩ : ByteArray)) ++ t324) ++ (⟨#[64]⟩ : ByteArray)) ++ t325) ++ (⟨#[32]⟩ : ByteArray)) ++ t327).size + 2 ≤ 9223372036854775807
                         ·rw [if_pos c50] at H
                          have c50b0 := eq_true c50
                          have c50_y0 : ((9223372036854775807 < x3_26.size + 1 + t324.size + 1 + t325.size + 1 + t327.size + 2) : Prop) = False := eq_false (by have h_ := c50; simp only [ByteArray.size_append] at h_; exact Nat.not_lt.2 h_)
                          have c50_z0 : ((x3_26.size + 1 + t324.size + 1 + t325.size + 1 + t327.size + 2 ≤ 9223372036854775807) : Prop) = True := eq_true (by have h_ := c50; simp only [ByteArray.size_append] at h_; exact h_)
                          have c50b1 : decide (((((((x3_26 ++ (⟨#[117]⟩ : ByteArray)) ++ t324) ++ (⟨#[64]⟩ : ByteArray)) ++ t325) ++ (⟨#[32]⟩ : ByteArray)) ++ t327).size + 2 ≤ 9223372036854775807) = true := decide_eq_true c50
                          try have c50b2 : (9223372036854775807 < ((((((x3_26 ++ (⟨#[117]⟩ : ByteArray)) ++ t324) ++ (⟨#[64]⟩ : ByteArray)) ++ t325) ++ (⟨#[32]⟩ : ByteArray)) ++ t327).size + 2) = False := eq_false (Nat.not_lt.2 c50)
                          replace H := Option.bind_eq_some_iff.mp H; obtain ⟨t328, A510, H⟩ := H; try dsimp only at H
                          have A51 := Aside0.mk A510
                          clear A510
                          by_cases c52 : (((((((x3_26 ++ (⟨#[117]⟩ : ByteArray)) ++ t324) ++ (⟨#[64]⟩ : ByteArray)) ++ t325) ++ (⟨#[32]⟩ : ByteArray)) ++ t327) ++ (⟨#[46, 46]⟩ : ByteArray)).size + t328.size ≤ 9223372036854775807
                          ·rw [if_pos c52] at H
                           have c52b0 := eq_true c52
                           have c52_y0 : ((9223372036854775807 < x3_26.size + 1 + t324.size + 1 + t325.size + 1 + t327.size + 2 + t328.size) : Prop) = False := eq_false (by have h_ := c52; simp only [ByteArray.size_append] at h_; exact Nat.not_lt.2 h_)
                           have c52_z0 : ((x3_26.size + 1 + t324.size + 1 + t325.size + 1 + t327.size + 2 + t328.size ≤ 9223372036854775807) : Prop) = True := eq_true (by have h_ := c52; simp only [ByteArray.size_append] at h_; exact h_)
                           have c52b1 : decide ((((((((x3_26 ++ (⟨#[117]⟩ : ByteArray)) ++ t324) ++ (⟨#[64]⟩ : ByteArray)) ++ t325) ++ (⟨#[32]⟩ : ByteArray)) ++ t327) ++ (⟨#[46, 46]⟩ : ByteArray)).size + t328.size ≤ 9223372036854775807) = true := decide_eq_true c52
                           try have c52b2 : (9223372036854775807 < (((((((x3_26 ++ (⟨#[117]⟩ : ByteArray)) ++ t324) ++ (⟨#[64]⟩ : ByteArray)) ++ t325) ++ (⟨#[32]⟩ : ByteArray)) ++ t327) ++ (⟨#[46, 46]⟩ : ByteArray)).size + t328.size) = False := eq_false (Nat.not_lt.2 c52)
                           have H' := Aside0.mk H
                           clear H
                           try go_wp2
                           have n0_ := Aside0.mk (blk_drew BK319.out)
                           have n1_ := Aside0.mk (blk_drew BK323.out)
                           have n2_ := Aside0.mk (below_drew1 HB.out)
                           clear BK319
                           clear BK323
                           clear HB
                           have BK319 := n0_
                           have BK323 := n1_
                           have HB := n2_
                           clear n0_ n1_ n2_
                           refine start_ (n := 15) (S := fun w' => w'.cell? ⟨gb323, 0, none⟩ = some (.bool ((rd_T55 l0_0 x4_1).f0)) ∧ w'.cell? ⟨gb323, 1, none⟩ = some (.int .i64 ((rd_T55 l0_0 x4_1).f1)) ∧ w'.cell? ⟨gb323, 2, none⟩ = some (.int .i64 ((rd_T55 l0_0 x4_1).f2)) ∧ w'.cell? ⟨gb323, 3, none⟩ = some (.int .i64 ((rd_T55 l0_0 x4_1).f3)) ∧ w'.cell? ⟨gb323, 4, none⟩ = some (.int .u64 ((rd_T55 l0_0 x4_1).f4)) ∧ w'.cell? ⟨gb323, 5, none⟩ = some (.int .u64 ((rd_T55 l0_0 x4_1).f5)) ∧ w'.cell? ⟨gb323, 6, none⟩ = some (.int .u64 ((rd_T55 l0_0 x4_1).f6))) (ds := []) #[false, false, false, false, false, false, false, false, false, false, false, false, false, false, false] (by kernel_rfl) rfl rfl ⟨(blk_cell BK323.out 0).trans rfl, (blk_cell BK323.out 1).trans rfl, (blk_cell BK323.out 2).trans rfl, (blk_cell BK323.out 3).trans rfl, (blk_cell BK323.out 4).trans rfl, (blk_cell BK323.out 5).trans rfl, (blk_cell BK323.out 6).trans rfl⟩ (fun hHeld => ?_); refine with_tabW stockaderef18_Line.tab17 stockaderef18_Line.bits17 (fun HT_ HW_ => ?_)
                           generalize wc.drew = w53 at BK319 BK323 HB hHeld ⊢
                           refine pure_ (i := 0) (N := some 49) (v := ?_) (a' := ?_) #[true, false, false, false, false, false, false, false, false, false, false, false, false, false, false] rfl rfl (any_of HT_.out (by kernel_rfl)) (fun _ _ _ h => h) (Or.inl ⟨by rfl, ?_⟩) ?_ ?_
                           rotate_left
                           ·intro w'
                            go_simp
                            with_reducible rfl
                           rotate_left
                           ·simp only [Act.put, List.setIfInBounds_toArray, List.set_cons_zero, List.set_cons_succ, i64_w, i32_w]
                            rfl
                           refine pure_ (i := 1) (N := some 50) (v := ?_) (a' := ?_) #[true, true, false, false, false, false, false, false, false, false, false, false, false, false, false] rfl rfl (any_of HT_.out (by kernel_rfl)) (fun _ _ _ h => h) (Or.inl ⟨by rfl, ?_⟩) ?_ ?_
                           rotate_left
                           ·intro w'
                            go_simp
                            with_reducible rfl
                           rotate_left
                           ·simp only [Act.put, List.setIfInBounds_toArray, List.set_cons_zero, List.set_cons_succ, i64_w, i32_w]
                            rfl
                           refine pure_ (i := 2) (N := some 51) (v := ?_) (a' := ?_) #[true, true, true, false, false, false, false, false, false, false, false, false, false, false, false] rfl rfl (any_of HT_.out (by kernel_rfl)) (fun _ _ _ h => h) (Or.inl ⟨by rfl, ?_⟩) ?_ ?_
                           rotate_left
                           ·intro w'
                            go_simp
                            with_reducible rfl
                           rotate_left
                           ·simp only [Act.put, List.setIfInBounds_toArray, List.set_cons_zero, List.set_cons_succ, i64_w, i32_w]
                            rfl
                           refine pure_ (i := 9) (N := some 58) (v := ?_) (a' := ?_) #[true, true, true, false, false, false, false, false, false, true, false, false, false, false, false] rfl rfl (any_of HT_.out (by kernel_rfl)) (fun _ _ _ h => h) (Or.inl ⟨by rfl, ?_⟩) ?_ ?_
                           rotate_left
                           ·intro w'
                            go_simp
                            with_reducible rfl
                           rotate_left
                           ·simp only [Act.put, List.setIfInBounds_toArray, List.set_cons_zero, List.set_cons_succ, i64_w, i32_w]
                            rfl
                           refine take_ (i := 3) (N := some 52) (v := ?_) (a' := ?_) #[true, true, true, true, false, false, false, false, false, true, false, false, false, false, false] rfl rfl (take_ofW HT_.out HW_.out (by kernel_rfl)) (fun _ _ _ h => h) (Or.inl ⟨by rfl, ?_⟩) hHeld ?_ ?_
                           rotate_left
                           ·rintro w' ⟨s0, s1, s2, s3, s4, s5, s6⟩
                            go_simp
                            with_reducible rfl
                           rotate_left
                           ·simp only [Act.put, List.setIfInBounds_toArray, List.set_cons_zero, List.set_cons_succ, i64_w, i32_w]
                            rfl
                           refine pure_ (i := 4) (N := some 53) (v := ?_) (a' := ?_) #[true, true, true, true, true, false, false, false, false, true, false, false, false, false, false] rfl rfl (any_of HT_.out (by kernel_rfl)) (fun _ _ _ h => h) (Or.inl ⟨by rfl, ?_⟩) ?_ ?_
                           rotate_left
                           ·intro w'
                            go_simp
                            with_reducible rfl
                           rotate_left
                           ·simp only [Act.put, List.setIfInBounds_toArray, List.set_cons_zero, List.set_cons_succ, i64_w, i32_w]
                            rfl
                           refine pure_ (i := 5) (N := some 54) (v := ?_) (a' := ?_) #[true, true, true, true, true, true, false, false, false, true, false, false, false, false, false] rfl rfl (any_of HT_.out (by kernel_rfl)) (fun _ _ _ h => h) (Or.inl ⟨by rfl, ?_⟩) ?_ ?_
                           rotate_left
                           ·intro w'
                            go_simp
                            with_reducible rfl
                           rotate_left
                           ·simp only [Act.put, List.setIfInBounds_toArray, List.set_cons_zero, List.set_cons_succ, i64_w, i32_w]
                            rfl
                           refine take_ (i := 10) (N := some 59) (v := ?_) (a' := ?_) #[true, true, true, true, true, true, false, false, false, true, true, false, false, false, false] rfl rfl (take_ofW HT_.out HW_.out (by kernel_rfl)) (fun _ _ _ h => h) (Or.inl ⟨by rfl, ?_⟩) hHeld ?_ ?_
                           rotate_left
                           ·rintro w' ⟨s0, s1, s2, s3, s4, s5, s6⟩
                            go_simp
                            with_reducible rfl
                           rotate_left
                           ·simp only [Act.put, List.setIfInBounds_toArray, List.set_cons_zero, List.set_cons_succ, i64_w, i32_w]
                            rfl
                           refine pure_ (i := 11) (N := some 60) (v := ?_) (a' := ?_) #[true, true, true, true, true, true, false, false, false, true, true, true, false, false, false] rfl rfl (any_of HT_.out (by kernel_rfl)) (fun _ _ _ h => h) (Or.inl ⟨by rfl, ?_⟩) ?_ ?_
                           rotate_left
                           ·intro w'
                            go_simp
                            with_reducible rfl
                           rotate_left
                           ·simp only [Act.put, List.setIfInBounds_toArray, List.set_cons_zero, List.set_cons_succ, i64_w, i32_w]
                            rfl
                           refine one_ (i := 6) (N := some 55) #[true, true, true, true, true, true, true, false, false, true, true, true, false, false, false] rfl rfl (one_of HT_.out (by kernel_rfl)) (by decide) (fun K hK => ?_)
                           refine goes_ Tryd.func48 (by kernel_rfl) rfl #[.int .u64 (IntKind.u64.wrap (wrap64 (8 * ((rd_T55 l0_0 x4_1).f3))))] (by rfl) rfl rfl (by (try simp only [List.map_toArray, List.map_cons, List.map_nil]); first | done | rfl | (simp only [List.length_drop, List.length_take]; rfl)) ?_
                           with_reducible refine (stockaderef18_digits.calls kj31 (IntKind.u64.wrap (wrap64 (8 * ((rd_T55 l0_0 x4_1).f3)))) t324 _ A40.out).mono ?_
                           rintro e w54 ⟨rfl, hb⟩
                           refine ⟨_, rfl, ?_⟩
                           have n0_ := Aside0.mk (blk_below (g := gb319) (o := .cells #[.slice (some ad322) l0_0.length c0_0, .int .u32 a0_1] 46 (0, 0)) bk_now hb)
                           have n1_ := Aside0.mk (blk_below (g := gb323) (o := .cells #[.bool ((rd_T55 l0_0 x4_1).f0), .int .i64 ((rd_T55 l0_0 x4_1).f1), .int .i64 ((rd_T55 l0_0 x4_1).f2), .int .i64 ((rd_T55 l0_0 x4_1).f3), .int .u64 ((rd_T55 l0_0 x4_1).f4), .int .u64 ((rd_T55 l0_0 x4_1).f5), .int .u64 ((rd_T55 l0_0 x4_1).f6)] 55 (0, 0)) bk_now hb)
                           have n2_ := Aside0.mk (below_step b_now hb)
                           clear BK319
                           clear BK323
                           clear HB
                           have BK319 := n0_
                           have BK323 := n1_
                           have HB := n2_
                           clear n0_ n1_ n2_
                           (try clear hb)
                           (try clear hb2)
                           (try clear hk)
                           (try clear hi)
                           refine hK.out _ _ ⟨(blk_cell BK323.out 0).trans rfl, (blk_cell BK323.out 1).trans rfl, (blk_cell BK323.out 2).trans rfl, (blk_cell BK323.out 3).trans rfl, (blk_cell BK323.out 4).trans rfl, (blk_cell BK323.out 5).trans rfl, (blk_cell BK323.out 6).trans rfl⟩ (fun hHeld => ?_)
                           clear hK K
                           refine norm_ (a' := ?_) ?_ ?_
                           rotate_left
                           ·show Act.put _ (some 55) _ = _
                            simp only [Act.put, List.setIfInBounds_toArray, List.set_cons_zero, List.set_cons_succ, i64_w, i32_w]
                            rfl
                           refine pure_ (i := 7) (N := some 56) (v := ?_) (a' := ?_) #[true, true, true, true, true, true, true, true, false, true, true, true, false, false, false] rfl rfl (any_of HT_.out (by kernel_rfl)) (fun _ _ _ h => h) (Or.inl ⟨by rfl, ?_⟩) ?_ ?_
                           rotate_left
                           ·intro w'
                            go_simp
                            with_reducible rfl
                           rotate_left
                           ·simp only [Act.put, List.setIfInBounds_toArray, List.set_cons_zero, List.set_cons_succ, i64_w, i32_w]
                            rfl
                           refine pure_ (i := 8) (N := some 57) (v := ?_) (a' := ?_) #[true, true, true, true, true, true, true, true, true, true, true, true, false, false, false] rfl rfl (any_of HT_.out (by kernel_rfl)) (fun _ _ _ h => h) (Or.inl ⟨by rfl, ?_⟩) ?_ ?_
                           rotate_left
                           ·intro w'
                            go_simp
                            with_reducible rfl
                           rotate_left
                           ·simp only [Act.put, List.setIfInBounds_toArray, List.set_cons_zero, List.set_cons_succ, i64_w, i32_w]
                            rfl
                           refine one_ (i := 12) (N := some 61) #[true, true, true, true, true, true, true, true, true, true, true, true, true, false, false] rfl rfl (one_of HT_.out (by kernel_rfl)) (by decide) (fun K hK => ?_)
                           refine goes_ Tryd.func48 (by kernel_rfl) rfl #[.int .u64 (IntKind.u64.wrap (((rd_T55 l0_0 x4_1).f2)))] (by rfl) rfl rfl (by (try simp only [List.map_toArray, List.map_cons, List.map_nil]); first | done | rfl | (simp only [List.length_drop, List.length_take]; rfl)) ?_
                           with_reducible refine (stockaderef18_digits.calls kj31 (IntKind.u64.wrap (((rd_T55 l0_0 x4_1).f2))) t325 _ A43.out).mono ?_
                           rintro e w55 ⟨rfl, hb⟩
                           refine ⟨_, rfl, ?_⟩
                           have n0_ := Aside0.mk (blk_below (g := gb319) (o := .cells #[.slice (some ad322) l0_0.length c0_0, .int .u32 a0_1] 46 (0, 0)) bk_now hb)
                           have n1_ := Aside0.mk (blk_below (g := gb323) (o := .cells #[.bool ((rd_T55 l0_0 x4_1).f0), .int .i64 ((rd_T55 l0_0 x4_1).f1), .int .i64 ((rd_T55 l0_0 x4_1).f2), .int .i64 ((rd_T55 l0_0 x4_1).f3), .int .u64 ((rd_T55 l0_0 x4_1).f4), .int .u64 ((rd_T55 l0_0 x4_1).f5), .int .u64 ((rd_T55 l0_0 x4_1).f6)] 55 (0, 0)) bk_now hb)
                           have n2_ := Aside0.mk (below_step b_now hb)
                           clear BK319
                           clear BK323
                           clear HB
                           have BK319 := n0_
                           have BK323 := n1_
                           have HB := n2_
                           clear n0_ n1_ n2_
                           (try clear hb)
                           (try clear hb2)
                           (try clear hk)
                           (try clear hi)
                           refine hK.out _ _ ⟨(blk_cell BK323.out 0).trans rfl, (blk_cell BK323.out 1).trans rfl, (blk_cell BK323.out 2).trans rfl, (blk_cell BK323.out 3).trans rfl, (blk_cell BK323.out 4).trans rfl, (blk_cell BK323.out 5).trans rfl, (blk_cell BK323.out 6).trans rfl⟩ (fun hHeld => ?_)
                           clear hK K
                           refine norm_ (a' := ?_) ?_ ?_
                           rotate_left
                           ·show Act.put _ (some 61) _ = _
                            simp only [Act.put, List.setIfInBounds_toArray, List.set_cons_zero, List.set_cons_succ, i64_w, i32_w]
                            rfl
                           refine pure_ (i := 13) (N := some 62) (v := ?_) (a' := ?_) #[true, true, true, true, true, true, true, true, true, true, true, true, true, true, false] rfl rfl (any_of HT_.out (by kernel_rfl)) (fun _ _ _ h => h) (Or.inl ⟨by rfl, ?_⟩) ?_ ?_
                           rotate_left
                           ·intro w'
                            go_simp
                            with_reducible rfl
                           rotate_left
                           ·simp only [Act.put, List.setIfInBounds_toArray, List.set_cons_zero, List.set_cons_succ, i64_w, i32_w]
                            rfl
                           refine pure_ (i := 14) (N := some 3) (v := ?_) (a' := ?_) #[true, true, true, true, true, true, true, true, true, true, true, true, true, true, true] rfl rfl (any_of HT_.out (by kernel_rfl)) (fun _ _ _ h => h) (Or.inl ⟨by rfl, ?_⟩) ?_ ?_
                           rotate_left
                           ·intro w'
                            go_simp
                            with_reducible rfl
                           rotate_left
                           ·simp only [Act.put, List.setIfInBounds_toArray, List.set_cons_zero, List.set_cons_succ, i64_w, i32_w]
                            rfl
                           refine done_ (done_of HT_.out (by kernel_rfl)) ?_
                           try go_wp2
                           have n0_ := Aside0.mk (blk_drew BK319.out)
                           have n1_ := Aside0.mk (blk_drew BK323.out)
                           have n2_ := Aside0.mk (below_drew1 HB.out)
                           clear BK319
                           clear BK323
                           clear HB
                           have BK319 := n0_
                           have BK323 := n1_
                           have HB := n2_
                           clear n0_ n1_ n2_
                           refine start_ (n := 6) (S := fun w' => w'.cell? ⟨gb323, 0, none⟩ = some (.bool ((rd_T55 l0_0 x4_1).f0)) ∧ w'.cell? ⟨gb323, 1, none⟩ = some (.int .i64 ((rd_T55 l0_0 x4_1).f1)) ∧ w'.cell? ⟨gb323, 2, none⟩ = some (.int .i64 ((rd_T55 l0_0 x4_1).f2)) ∧ w'.cell? ⟨gb323, 3, none⟩ = some (.int .i64 ((rd_T55 l0_0 x4_1).f3)) ∧ w'.cell? ⟨gb323, 4, none⟩ = some (.int .u64 ((rd_T55 l0_0 x4_1).f4)) ∧ w'.cell? ⟨gb323, 5, none⟩ = some (.int .u64 ((rd_T55 l0_0 x4_1).f5)) ∧ w'.cell? ⟨gb323, 6, none⟩ = some (.int .u64 ((rd_T55 l0_0 x4_1).f6))) (ds := []) #[false, false, false, false, false, false] (by kernel_rfl) rfl rfl ⟨(blk_cell BK323.out 0).trans rfl, (blk_cell BK323.out 1).trans rfl, (blk_cell BK323.out 2).trans rfl, (blk_cell BK323.out 3).trans rfl, (blk_cell BK323.out 4).trans rfl, (blk_cell BK323.out 5).trans rfl, (blk_cell BK323.out 6).trans rfl⟩ (fun hHeld => ?_)
                           generalize w55.drew = w56 at BK319 BK323 HB hHeld ⊢
                           refine pure_ (i := 0) (N := some 63) (v := ?_) (a' := ?_) #[true, false, false, false, false, false] rfl rfl (by kernel_rfl) (fun _ _ _ h => h) (Or.inl ⟨by rfl, ?_⟩) ?_ ?_
                           rotate_left
                           ·intro w'
                            go_simp
                            with_reducible rfl
                           rotate_left
                           ·simp only [Act.put, List.setIfInBounds_toArray, List.set_cons_zero, List.set_cons_succ, i64_w, i32_w]
                            rfl
                           refine pure_ (i := 2) (N := some 65) (v := ?_) (a' := ?_) #[true, false, true, false, false, false] rfl rfl (by kernel_rfl) (fun _ _ _ h => h) (Or.inl ⟨by rfl, ?_⟩) ?_ ?_
                           rotate_left
                           ·intro w'
                            go_simp
                            with_reducible rfl
                           rotate_left
                           ·simp only [Act.put, List.setIfInBounds_toArray, List.set_cons_zero, List.set_cons_succ, i64_w, i32_w]
                            rfl
                           refine take_ (i := 1) (N := some 64) (v := ?_) (a' := ?_) #[true, true, true, false, false, false] rfl rfl (by kernel_rfl) (fun _ _ _ h => h) (Or.inl ⟨by rfl, ?_⟩) hHeld ?_ ?_
                           rotate_left
                           ·rintro w' ⟨s0, s1, s2, s3, s4, s5, s6⟩
                            go_simp
                            with_reducible rfl
                           rotate_left
                           ·simp only [Act.put, List.setIfInBounds_toArray, List.set_cons_zero, List.set_cons_succ, i64_w, i32_w]
                            rfl
                           refine take_ (i := 3) (N := some 66) (v := ?_) (a' := ?_) #[true, true, true, true, false, false] rfl rfl (by kernel_rfl) (fun _ _ _ h => h) (Or.inl ⟨by rfl, ?_⟩) hHeld ?_ ?_
                           rotate_left
                           ·rintro w' ⟨s0, s1, s2, s3, s4, s5, s6⟩
                            go_simp
                            with_reducible rfl
                           rotate_left
                           ·simp only [Act.put, List.setIfInBounds_toArray, List.set_cons_zero, List.set_cons_succ, i64_w, i32_w]
                            rfl
                           refine one_ (i := 4) (N := some 67) #[true, true, true, true, true, false] rfl rfl (by kernel_rfl) (by decide) (fun K hK => ?_)
                           refine goes_ Tryd.func43 (by kernel_rfl) rfl #[.int .i64 ((rd_T55 l0_0 x4_1).f3)] (by rfl) rfl rfl (by (try simp only [List.map_toArray, List.map_cons, List.map_nil]); first | done | rfl | (simp only [List.length_drop, List.length_take]; rfl)) ?_
                           with_reducible refine (stockaderef18_Full.calls kj31 ((rd_T55 l0_0 x4_1).f3) t326 _ A45.out).mono ?_
                           rintro e w' ⟨rfl, ⟨nd, rfl⟩⟩
                           refine ⟨_, rfl, ?_⟩
                           refine hK.out _ _ ⟨(blk_cell BK323.out 0).trans rfl, (blk_cell BK323.out 1).trans rfl, (blk_cell BK323.out 2).trans rfl, (blk_cell BK323.out 3).trans rfl, (blk_cell BK323.out 4).trans rfl, (blk_cell BK323.out 5).trans rfl, (blk_cell BK323.out 6).trans rfl⟩ (fun hHeld => ?_)
                           clear hK K
                           refine norm_ (a' := ?_) ?_ ?_
                           rotate_left
                           ·show Act.put _ (some 67) _ = _
                            simp only [Act.put, List.setIfInBounds_toArray, List.set_cons_zero, List.set_cons_succ, i64_w, i32_w]
                            rfl
                           refine pure_ (i := 5) (N := some 68) (v := ?_) (a' := ?_) #[true, true, true, true, true, true] rfl rfl (by kernel_rfl) (fun _ _ _ h => h) (Or.inl ⟨by rfl, ?_⟩) ?_ ?_
                           rotate_left
                           ·intro w'
                            go_simp
                            with_reducible rfl
                           rotate_left
                           ·simp only [Act.put, List.setIfInBounds_toArray, List.set_cons_zero, List.set_cons_succ, i64_w, i32_w]
                            rfl
                           refine done_ (by kernel_rfl) ?_
                           try go_wp2
                           (try (rw [drewN_self w56]; generalize hq_ : World.drewN w56 _ = w56; have n0_ : Aside0 (w56.heap[gb319]? = some (.cells #[.slice (some ad322) l0_0.length c0_0, .int .u32 a0_1] 46 (0, 0))) := ⟨by rw [← hq_]; exact bk_now⟩; have n1_ : Aside0 (w56.heap[gb323]? = some (.cells #[.bool ((rd_T55 l0_0 x4_1).f0), .int .i64 ((rd_T55 l0_0 x4_1).f1), .int .i64 ((rd_T55 l0_0 x4_1).f2), .int .i64 ((rd_T55 l0_0 x4_1).f3), .int .u64 ((rd_T55 l0_0 x4_1).f4), .int .u64 ((rd_T55 l0_0 x4_1).f5), .int .u64 ((rd_T55 l0_0 x4_1).f6)] 55 (0, 0))) := ⟨by rw [← hq_]; exact bk_now⟩; have n2_ : Aside0 (Below w.heap.size w w56) := ⟨by rw [← hq_]; exact b_now⟩; clear BK319 BK323 HB hq_; have BK319 := n0_; have BK323 := n1_; have HB := n2_; clear n0_ n1_ n2_))
                           have n0_ := Aside0.mk (blk_drew BK319.out)
                           have n1_ := Aside0.mk (blk_drew BK323.out)
                           have n2_ := Aside0.mk (below_drew1 HB.out)
                           clear BK319
                           clear BK323
                           clear HB
                           have BK319 := n0_
                           have BK323 := n1_
                           have HB := n2_
                           clear n0_ n1_ n2_
                           refine start_ (n := 11) (S := fun w' => w'.cell? ⟨gb323, 0, none⟩ = some (.bool ((rd_T55 l0_0 x4_1).f0)) ∧ w'.cell? ⟨gb323, 1, none⟩ = some (.int .i64 ((rd_T55 l0_0 x4_1).f1)) ∧ w'.cell? ⟨gb323, 2, none⟩ = some (.int .i64 ((rd_T55 l0_0 x4_1).f2)) ∧ w'.cell? ⟨gb323, 3, none⟩ = some (.int .i64 ((rd_T55 l0_0 x4_1).f3)) ∧ w'.cell? ⟨gb323, 4, none⟩ = some (.int .u64 ((rd_T55 l0_0 x4_1).f4)) ∧ w'.cell? ⟨gb323, 5, none⟩ = some (.int .u64 ((rd_T55 l0_0 x4_1).f5)) ∧ w'.cell? ⟨gb323, 6, none⟩ = some (.int .u64 ((rd_T55 l0_0 x4_1).f6))) (ds := []) #[false, false, false, false, false, false, false, false, false, false, false] (by kernel_rfl) rfl rfl ⟨(blk_cell BK323.out 0).trans rfl, (blk_cell BK323.out 1).trans rfl, (blk_cell BK323.out 2).trans rfl, (blk_cell BK323.out 3).trans rfl, (blk_cell BK323.out 4).trans rfl, (blk_cell BK323.out 5).trans rfl, (blk_cell BK323.out 6).trans rfl⟩ (fun hHeld => ?_); refine with_tabW stockaderef18_Line.tab21 stockaderef18_Line.bits21 (fun HT_ HW_ => ?_)
                           generalize w56.drew = w57 at BK319 BK323 HB hHeld ⊢
                           refine pure_ (i := 0) (N := some 77) (v := ?_) (a' := ?_) #[true, false, false, false, false, false, false, false, false, false, false] rfl rfl (any_of HT_.out (by kernel_rfl)) (fun _ _ _ h => h) (Or.inl ⟨by rfl, ?_⟩) ?_ ?_
                           rotate_left
                           ·intro w'
                            go_simp
                            with_reducible rfl
                           rotate_left
                           ·simp only [Act.put, List.setIfInBounds_toArray, List.set_cons_zero, List.set_cons_succ, i64_w, i32_w]
                            rfl
                           refine pure_ (i := 1) (N := some 78) (v := ?_) (a' := ?_) #[true, true, false, false, false, false, false, false, false, false, false] rfl rfl (any_of HT_.out (by kernel_rfl)) (fun _ _ _ h => h) (Or.inl ⟨by rfl, ?_⟩) ?_ ?_
                           rotate_left
                           ·intro w'
                            go_simp
                            with_reducible rfl
                           rotate_left
                           ·simp only [Act.put, List.setIfInBounds_toArray, List.set_cons_zero, List.set_cons_succ, i64_w, i32_w]
                            rfl
                           refine pure_ (i := 6) (N := some 83) (v := ?_) (a' := ?_) #[true, true, false, false, false, false, true, false, false, false, false] rfl rfl (any_of HT_.out (by kernel_rfl)) (fun _ _ _ h => h) (Or.inl ⟨by rfl, ?_⟩) ?_ ?_
                           rotate_left
                           ·intro w'
                            go_simp
                            with_reducible rfl
                           rotate_left
                           ·simp only [Act.put, List.setIfInBounds_toArray, List.set_cons_zero, List.set_cons_succ, i64_w, i32_w]
                            rfl
                           refine take_ (i := 2) (N := some 79) (v := ?_) (a' := ?_) #[true, true, true, false, false, false, true, false, false, false, false] rfl rfl (take_ofW HT_.out HW_.out (by kernel_rfl)) (fun _ _ _ h => h) (Or.inl ⟨by rfl, ?_⟩) hHeld ?_ ?_
                           rotate_left
                           ·rintro w' ⟨s0, s1, s2, s3, s4, s5, s6⟩
                            go_simp
                            with_reducible rfl
                           rotate_left
                           ·simp only [Act.put, List.setIfInBounds_toArray, List.set_cons_zero, List.set_cons_succ, i64_w, i32_w]
                            rfl
                           refine take_ (i := 7) (N := some 84) (v := ?_) (a' := ?_) #[true, true, true, false, false, false, true, true, false, false, false] rfl rfl (take_ofW HT_.out HW_.out (by kernel_rfl)) (fun _ _ _ h => h) (Or.inl ⟨by rfl, ?_⟩) hHeld ?_ ?_
                           rotate_left
                           ·rintro w' ⟨s0, s1, s2, s3, s4, s5, s6⟩
                            go_simp
                            with_reducible rfl
                           rotate_left
                           ·simp only [Act.put, List.setIfInBounds_toArray, List.set_cons_zero, List.set_cons_succ, i64_w, i32_w]
                            rfl
                           refine one_ (i := 3) (N := some 80) #[true, true, true, true, false, false, true, true, false, false, false] rfl rfl (one_of HT_.out (by kernel_rfl)) (by decide) (fun K hK => ?_)
                           refine goes_ Tryd.func48 (by kernel_rfl) rfl #[.int .u64 ((rd_T55 l0_0 x4_1).f5)] (by rfl) rfl rfl (by (try simp only [List.map_toArray, List.map_cons, List.map_nil]); first | done | rfl | (simp only [List.length_drop, List.length_take]; rfl)) ?_
                           with_reducible refine (stockaderef18_digits.calls kj31 ((rd_T55 l0_0 x4_1).f5) t327 _ A48.out).mono ?_
                           rintro e w58 ⟨rfl, hb⟩
                           refine ⟨_, rfl, ?_⟩
                           have n0_ := Aside0.mk (blk_below (g := gb319) (o := .cells #[.slice (some ad322) l0_0.length c0_0, .int .u32 a0_1] 46 (0, 0)) bk_now hb)
                           have n1_ := Aside0.mk (blk_below (g := gb323) (o := .cells #[.bool ((rd_T55 l0_0 x4_1).f0), .int .i64 ((rd_T55 l0_0 x4_1).f1), .int .i64 ((rd_T55 l0_0 x4_1).f2), .int .i64 ((rd_T55 l0_0 x4_1).f3), .int .u64 ((rd_T55 l0_0 x4_1).f4), .int .u64 ((rd_T55 l0_0 x4_1).f5), .int .u64 ((rd_T55 l0_0 x4_1).f6)] 55 (0, 0)) bk_now hb)
                           have n2_ := Aside0.mk (below_step b_now hb)
                           clear BK319
                           clear BK323
                           clear HB
                           have BK319 := n0_
                           have BK323 := n1_
                           have HB := n2_
                           clear n0_ n1_ n2_
                           (try clear hb)
                           (try clear hb2)
                           (try clear hk)
                           (try clear hi)
                           refine hK.out _ _ ⟨(blk_cell BK323.out 0).trans rfl, (blk_cell BK323.out 1).trans rfl, (blk_cell BK323.out 2).trans rfl, (blk_cell BK323.out 3).trans rfl, (blk_cell BK323.out 4).trans rfl, (blk_cell BK323.out 5).trans rfl, (blk_cell BK323.out 6).trans rfl⟩ (fun hHeld => ?_)
                           clear hK K
                           refine norm_ (a' := ?_) ?_ ?_
                           rotate_left
                           ·show Act.put _ (some 80) _ = _
                            simp only [Act.put, List.setIfInBounds_toArray, List.set_cons_zero, List.set_cons_succ, i64_w, i32_w]
                            rfl
                           refine pure_ (i := 4) (N := some 81) (v := ?_) (a' := ?_) #[true, true, true, true, true, false, true, true, false, false, false] rfl rfl (any_of HT_.out (by kernel_rfl)) (fun _ _ _ h => h) (Or.inl ⟨by rfl, ?_⟩) ?_ ?_
                           rotate_left
                           ·intro w'
                            go_simp
                            with_reducible rfl
                           rotate_left
                           ·simp only [Act.put, List.setIfInBounds_toArray, List.set_cons_zero, List.set_cons_succ, i64_w, i32_w]
                            rfl
                           refine pure_ (i := 5) (N := some 82) (v := ?_) (a' := ?_) #[true, true, true, true, true, true, true, true, false, false, false] rfl rfl (any_of HT_.out (by kernel_rfl)) (fun _ _ _ h => h) (Or.inl ⟨by rfl, ?_⟩) ?_ ?_
                           rotate_left
                           ·intro w'
                            go_simp
                            with_reducible rfl
                           rotate_left
                           ·simp only [Act.put, List.setIfInBounds_toArray, List.set_cons_zero, List.set_cons_succ, i64_w, i32_w]
                            rfl
                           refine one_ (i := 8) (N := some 85) #[true, true, true, true, true, true, true, true, true, false, false] rfl rfl (one_of HT_.out (by kernel_rfl)) (by decide) (fun K hK => ?_)
                           refine goes_ Tryd.func48 (by kernel_rfl) rfl #[.int .u64 ((rd_T55 l0_0 x4_1).f6)] (by rfl) rfl rfl (by (try simp only [List.map_toArray, List.map_cons, List.map_nil]); first | done | rfl | (simp only [List.length_drop, List.length_take]; rfl)) ?_
                           with_reducible refine (stockaderef18_digits.calls kj31 ((rd_T55 l0_0 x4_1).f6) t328 _ A51.out).mono ?_
                           rintro e w59 ⟨rfl, hb⟩
                           refine ⟨_, rfl, ?_⟩
                           have n0_ := Aside0.mk (blk_below (g := gb319) (o := .cells #[.slice (some ad322) l0_0.length c0_0, .int .u32 a0_1] 46 (0, 0)) bk_now hb)
                           have n1_ := Aside0.mk (blk_below (g := gb323) (o := .cells #[.bool ((rd_T55 l0_0 x4_1).f0), .int .i64 ((rd_T55 l0_0 x4_1).f1), .int .i64 ((rd_T55 l0_0 x4_1).f2), .int .i64 ((rd_T55 l0_0 x4_1).f3), .int .u64 ((rd_T55 l0_0 x4_1).f4), .int .u64 ((rd_T55 l0_0 x4_1).f5), .int .u64 ((rd_T55 l0_0 x4_1).f6)] 55 (0, 0)) bk_now hb)
                           have n2_ := Aside0.mk (below_step b_now hb)
                           clear BK319
                           clear BK323
                           clear HB
                           have BK319 := n0_
                           have BK323 := n1_
                           have HB := n2_
                           clear n0_ n1_ n2_
                           (try clear hb)
                           (try clear hb2)
                           (try clear hk)
                           (try clear hi)
                           refine hK.out _ _ ⟨(blk_cell BK323.out 0).trans rfl, (blk_cell BK323.out 1).trans rfl, (blk_cell BK323.out 2).trans rfl, (blk_cell BK323.out 3).trans rfl, (blk_cell BK323.out 4).trans rfl, (blk_cell BK323.out 5).trans rfl, (blk_cell BK323.out 6).trans rfl⟩ (fun hHeld => ?_)
                           clear hK K
                           refine norm_ (a' := ?_) ?_ ?_
                           rotate_left
                           ·show Act.put _ (some 85) _ = _
                            simp only [Act.put, List.setIfInBounds_toArray, List.set_cons_zero, List.set_cons_succ, i64_w, i32_w]
                            rfl
                           refine pure_ (i := 9) (N := some 86) (v := ?_) (a' := ?_) #[true, true, true, true, true, true, true, true, true, true, false] rfl rfl (any_of HT_.out (by kernel_rfl)) (fun _ _ _ h => h) (Or.inl ⟨by rfl, ?_⟩) ?_ ?_
                           rotate_left
                           ·intro w'
                            go_simp
                            with_reducible rfl
                           rotate_left
                           ·simp only [Act.put, List.setIfInBounds_toArray, List.set_cons_zero, List.set_cons_succ, i64_w, i32_w]
                            rfl
                           refine pure_ (i := 10) (N := some 3) (v := ?_) (a' := ?_) #[true, true, true, true, true, true, true, true, true, true, true] rfl rfl (any_of HT_.out (by kernel_rfl)) (fun _ _ _ h => h) (Or.inl ⟨by rfl, ?_⟩) ?_ ?_
                           rotate_left
                           ·intro w'
                            go_simp
                            with_reducible rfl
                           rotate_left
                           ·simp only [Act.put, List.setIfInBounds_toArray, List.set_cons_zero, List.set_cons_succ, i64_w, i32_w]
                            rfl
                           refine done_ (done_of HT_.out (by kernel_rfl)) ?_
                           try go_wp2
                           go_roundg kj31
                           case measure => have := HK1.out; have := HJ4.out; have := HJ11.out; have := HJ16.out; have := HJ21.out; have := HJ26.out; have := HJ31.out; omega
                           case rel => exact ⟨((((((((x3_26 ++ (⟨#[117]⟩ : ByteArray)) ++ t324) ++ (⟨#[64]⟩ : ByteArray)) ++ t325) ++ (⟨#[32]⟩ : ByteArray)) ++ t327) ++ (⟨#[46, 46]⟩ : ByteArray)) ++ t328), (wrap64 (x4_1 + 1)), eq_now, eq_now, H', ⟨by have := HK1.out; have := HJ4.out; have := HJ11.out; have := HJ16.out; have := HJ21.out; have := HJ26.out; have := HJ31.out; omega⟩, ⟨bk_now⟩, ⟨b_now⟩⟩
                          ·rw [if_neg c52] at H
                           exact absurd H (by simp)
                         ·rw [if_neg c50] at H
                          exact absurd H (by simp)
                        ·rw [if_neg c49] at H
                         exact absurd H (by simp)
                       ·rw [if_neg c47] at H
                        exact absurd H (by simp)
                      ·rw [if_neg c46] at H
                       have c46b0 : (((rd_T55 l0_0 x4_1).f4) == t326) = false := beq_eq_false_iff_ne.mpr c46
                       have c46b1 : (((rd_T55 l0_0 x4_1).f4) != t326) = true := bne_iff_ne.mpr c46
                       by_cases c60 : ((((x3_26 ++ (⟨#[117]⟩ : ByteArray)) ++ t324) ++ (⟨#[64]⟩ : ByteArray)) ++ t325).size + 1 ≤ 9223372036854775807
                       ·rw [if_pos c60] at H
                        have c60b0 := eq_true c60
                        have c60_y0 : ((9223372036854775807 < x3_26.size + 1 + t324.size + 1 + t325.size + 1) : Prop) = False := eq_false (by have h_ := c60; simp only [ByteArray.size_append] at h_; exact Nat.not_lt.2 h_)
                        have c60_z0 : ((x3_26.size + 1 + t324.size + 1 + t325.size + 1 ≤ 9223372036854775807) : Prop) = True := eq_true (by have h_ := c60; simp only [ByteArray.size_append] at h_; exact h_)
                        have c60b1 : decide (((((x3_26 ++ (⟨#[117]⟩ : ByteArray)) ++ t324) ++ (⟨#[64]⟩ : ByteArray)) ++ t325).size + 1 ≤ 9223372036854775807) = true := decide_eq_true c60
                        try have c60b2 : (9223372036854775807 < ((((x3_26 ++ (⟨#[117]⟩ : ByteArray)) ++ t324) ++ (⟨#[64]⟩ : ByteArray)) ++ t325).size + 1) = False := eq_false (Nat.not_lt.2 c60)
                        replace H := Option.bind_eq_some_iff.mp H; obtain ⟨t329, A610, H⟩ := H; try dsimp only at H
                        have A61 := Aside0.mk A610
                        clear A610
                        by_cases c62 : (((((x3_26 ++ (⟨#[117]⟩ : ByteArray)) ++ t324) ++ (⟨#[64]⟩ : ByteArray)) ++ t325) ++ (⟨#[47]⟩ : ByteArray)).size + t329.size ≤ 9223372036854775807
                        ·rw [if_pos c62] at H
                         have c62b0 := eq_true c62
                         have c62_y0 : ((9223372036854775807 < x3_26.size + 1 + t324.size + 1 + t325.size + 1 + t329.size) : Prop) = False := eq_false (by have h_ := c62; simp only [ByteArray.size_append] at h_; exact Nat.not_lt.2 h_)
                         have c62_z0 : ((x3_26.size + 1 + t324.size + 1 + t325.size + 1 + t329.size ≤ 9223372036854775807) : Prop) = True := eq_true (by have h_ := c62; simp only [ByteArray.size_append] at h_; exact h_)
                         have c62b1 : decide ((((((x3_26 ++ (⟨#[117]⟩ : ByteArray)) ++ t324) ++ (⟨#[64]⟩ : ByteArray)) ++ t325) ++ (⟨#[47]⟩ : ByteArray)).size + t329.size ≤ 9223372036854775807) = true := decide_eq_true c62
                         try have c62b2 : (9223372036854775807 < (((((x3_26 ++ (⟨#[117]⟩ : ByteArray)) ++ t324) ++ (⟨#[64]⟩ : ByteArray)) ++ t325) ++ (⟨#[47]⟩ : ByteArray)).size + t329.size) = False := eq_false (Nat.not_lt.2 c62)
                         by_cases c63 : ((((((x3_26 ++ (⟨#[117]⟩ : ByteArray)) ++ t324) ++ (⟨#[64]⟩ : ByteArray)) ++ t325) ++ (⟨#[47]⟩ : ByteArray)) ++ t329).size + 1 ≤ 9223372036854775807
                         ·rw [if_pos c63] at H
                          have c63b0 := eq_true c63
                          have c63_y0 : ((9223372036854775807 < x3_26.size + 1 + t324.size + 1 + t325.size + 1 + t329.size + 1) : Prop) = False := eq_false (by have h_ := c63; simp only [ByteArray.size_append] at h_; exact Nat.not_lt.2 h_)
                          have c63_z0 : ((x3_26.size + 1 + t324.size + 1 + t325.size + 1 + t329.size + 1 ≤ 9223372036854775807) : Prop) = True := eq_true (by have h_ := c63; simp only [ByteArray.size_append] at h_; exact h_)
                          have c63b1 : decide (((((((x3_26 ++ (⟨#[117]⟩ : ByteArray)) ++ t324) ++ (⟨#[64]⟩ : ByteArray)) ++ t325) ++ (⟨#[47]⟩ : ByteArray)) ++ t329).size + 1 ≤ 9223372036854775807) = true := decide_eq_true c63
                          try have c63b2 : (9223372036854775807 < ((((((x3_26 ++ (⟨#[117]⟩ : ByteArray)) ++ t324) ++ (⟨#[64]⟩ : ByteArray)) ++ t325) ++ (⟨#[47]⟩ : ByteArray)) ++ t329).size + 1) = False := eq_false (Nat.not_lt.2 c63)
                          replace H := Option.bind_eq_some_iff.mp H; obtain ⟨t330, A640, H⟩ := H; try dsimp only at H
                          have A64 := Aside0.mk A640
                          clear A640
                          by_cases c65 : (((((((x3_26 ++ (⟨#[117]⟩ : ByteArray)) ++ t324) ++ (⟨#[64]⟩ : ByteArray)) ++ t325) ++ (⟨#[47]⟩ : ByteArray)) ++ t329) ++ (⟨#[32]⟩ : ByteArray)).size + t330.size ≤ 9223372036854775807
                          ·rw [if_pos c65] at H
                           have c65b0 := eq_true c65
                           have c65_y0 : ((9223372036854775807 < x3_26.size + 1 + t324.size + 1 + t325.size + 1 + t329.size + 1 + t330.size) : Prop) = False := eq_false (by have h_ := c65; simp only [ByteArray.size_append] at h_; exact Nat.not_lt.2 h_)
                           have c65_z0 : ((x3_26.size + 1 + t324.size + 1 + t325.size + 1 + t329.size + 1 + t330.size ≤ 9223372036854775807) : Prop) = True := eq_true (by have h_ := c65; simp only [ByteArray.size_append] at h_; exact h_)
                           have c65b1 : decide ((((((((x3_26 ++ (⟨#[117]⟩ : ByteArray)) ++ t324) ++ (⟨#[64]⟩ : ByteArray)) ++ t325) ++ (⟨#[47]⟩ : ByteArray)) ++ t329) ++ (⟨#[32]⟩ : ByteArray)).size + t330.size ≤ 9223372036854775807) = true := decide_eq_true c65
                           try have c65b2 : (9223372036854775807 < (((((((x3_26 ++ (⟨#[117]⟩ : ByteArray)) ++ t324) ++ (⟨#[64]⟩ : ByteArray)) ++ t325) ++ (⟨#[47]⟩ : ByteArray)) ++ t329) ++ (⟨#[32]⟩ : ByteArray)).size + t330.size) = False := eq_false (Nat.not_lt.2 c65)
                           by_cases c66 : ((((((((x3_26 ++ (⟨#[117]⟩ : ByteArray)) ++ t324) ++ (⟨#[64]⟩ : ByteArray)) ++ t325) ++ (⟨#[47]⟩ : ByteArray)) ++ t329) ++ (⟨#[32]⟩ : ByteArray)) ++ t330).size + 2 ≤ 9223372036854775807
                           ·rw [if_pos c66] at H
                            have c66b0 := eq_true c66
                            have c66_y0 : ((9223372036854775807 < x3_26.size + 1 + t324.size + 1 + t325.size + 1 + t329.size + 1 + t330.size + 2) : Prop) = False := eq_false (by have h_ := c66; simp only [ByteArray.size_append] at h_; exact Nat.not_lt.2 h_)
                            have c66_z0 : ((x3_26.size + 1 + t324.size + 1 + t325.size + 1 + t329.size + 1 + t330.size + 2 ≤ 9223372036854775807) : Prop) = True := eq_true (by have h_ := c66; simp only [ByteArray.size_append] at h_; exact h_)
                            have c66b1 : decide (((((((((x3_26 ++ (⟨#[117]⟩ : ByteArray)) ++ t324) ++ (⟨#[64]⟩ : ByteArray)) ++ t325) ++ (⟨#[47]⟩ : ByteArray)) ++ t329) ++ (⟨#[32]⟩ : ByteArray)) ++ t330).size + 2 ≤ 9223372036854775807) = true := decide_eq_true c66
                            try have c66b2 : (9223372036854775807 < ((((((((x3_26 ++ (⟨#[117]⟩ : ByteArray)) ++ t324) ++ (⟨#[64]⟩ : ByteArray)) ++ t325) ++ (⟨#[47]⟩ : ByteArray)) ++ t329) ++ (⟨#[32]⟩ : ByteArray)) ++ t330).size + 2) = False := eq_false (Nat.not_lt.2 c66)
                            replace H := Option.bind_eq_some_iff.mp H; obtain ⟨t331, A670, H⟩ := H; try dsimp only at H
                            have A67 := Aside0.mk A670
                            clear A670
                            by_cases c68 : (((((((((x3_26 ++ (⟨#[117]⟩ : ByteArray)) ++ t324) ++ (⟨#[64]⟩ : ByteArray)) ++ t325) ++ (⟨#[47]⟩ : ByteArray)) ++ t329) ++ (⟨#[32]⟩ : ByteArray)) ++ t330) ++ (⟨#[46, 46]⟩ : ByteArray)).size + t331.size ≤ 9223372036854775807
                            ·rw [if_pos c68] at H
                             have c68b0 := eq_true c68
                             have c68_y0 : ((9223372036854775807 < x3_26.size + 1 + t324.size + 1 + t325.size + 1 + t329.size + 1 + t330.size + 2 + t331.size) : Prop) = False := eq_false (by have h_ := c68; simp only [ByteArray.size_append] at h_; exact Nat.not_lt.2 h_)
                             have c68_z0 : ((x3_26.size + 1 + t324.size + 1 + t325.size + 1 + t329.size + 1 + t330.size + 2 + t331.size ≤ 9223372036854775807) : Prop) = True := eq_true (by have h_ := c68; simp only [ByteArray.size_append] at h_; exact h_)
                             have c68b1 : decide ((((((((((x3_26 ++ (⟨#[117]⟩ : ByteArray)) ++ t324) ++ (⟨#[64]⟩ : ByteArray)) ++ t325) ++ (⟨#[47]⟩ : ByteArray)) ++ t329) ++ (⟨#[32]⟩ : ByteArray)) ++ t330) ++ (⟨#[46, 46]⟩ : ByteArray)).size + t331.size ≤ 9223372036854775807) = true := decide_eq_true c68
                             try have c68b2 : (9223372036854775807 < (((((((((x3_26 ++ (⟨#[117]⟩ : ByteArray)) ++ t324) ++ (⟨#[64]⟩ : ByteArray)) ++ t325) ++ (⟨#[47]⟩ : ByteArray)) ++ t329) ++ (⟨#[32]⟩ : ByteArray)) ++ t330) ++ (⟨#[46, 46]⟩ : ByteArray)).size + t331.size) = False := eq_false (Nat.not_lt.2 c68)
                             have H' := Aside0.mk H
                             clear H
                             try go_wp2
                             have n0_ := Aside0.mk (blk_drew BK319.out)
                             have n1_ := Aside0.mk (blk_drew BK323.out)
                             have n2_ := Aside0.mk (below_drew1 HB.out)
                             clear BK319
                             clear BK323
                             clear HB
                             have BK319 := n0_
                             have BK323 := n1_
                             have HB := n2_
                             clear n0_ n1_ n2_
                             refine start_ (n := 15) (S := fun w' => w'.cell? ⟨gb323, 0, none⟩ = some (.bool ((rd_T55 l0_0 x4_1).f0)) ∧ w'.cell? ⟨gb323, 1, none⟩ = some (.int .i64 ((rd_T55 l0_0 x4_1).f1)) ∧ w'.cell? ⟨gb323, 2, none⟩ = some (.int .i64 ((rd_T55 l0_0 x4_1).f2)) ∧ w'.cell? ⟨gb323, 3, none⟩ = some (.int .i64 ((rd_T55 l0_0 x4_1).f3)) ∧ w'.cell? ⟨gb323, 4, none⟩ = some (.int .u64 ((rd_T55 l0_0 x4_1).f4)) ∧ w'.cell? ⟨gb323, 5, none⟩ = some (.int .u64 ((rd_T55 l0_0 x4_1).f5)) ∧ w'.cell? ⟨gb323, 6, none⟩ = some (.int .u64 ((rd_T55 l0_0 x4_1).f6))) (ds := []) #[false, false, false, false, false, false, false, false, false, false, false, false, false, false, false] (by kernel_rfl) rfl rfl ⟨(blk_cell BK323.out 0).trans rfl, (blk_cell BK323.out 1).trans rfl, (blk_cell BK323.out 2).trans rfl, (blk_cell BK323.out 3).trans rfl, (blk_cell BK323.out 4).trans rfl, (blk_cell BK323.out 5).trans rfl, (blk_cell BK323.out 6).trans rfl⟩ (fun hHeld => ?_); refine with_tabW stockaderef18_Line.tab17 stockaderef18_Line.bits17 (fun HT_ HW_ => ?_)
                             generalize wc.drew = w69 at BK319 BK323 HB hHeld ⊢
                             refine pure_ (i := 0) (N := some 49) (v := ?_) (a' := ?_) #[true, false, false, false, false, false, false, false, false, false, false, false, false, false, false] rfl rfl (any_of HT_.out (by kernel_rfl)) (fun _ _ _ h => h) (Or.inl ⟨by rfl, ?_⟩) ?_ ?_
                             rotate_left
                             ·intro w'
                              go_simp
                              with_reducible rfl
                             rotate_left
                             ·simp only [Act.put, List.setIfInBounds_toArray, List.set_cons_zero, List.set_cons_succ, i64_w, i32_w]
                              rfl
                             refine pure_ (i := 1) (N := some 50) (v := ?_) (a' := ?_) #[true, true, false, false, false, false, false, false, false, false, false, false, false, false, false] rfl rfl (any_of HT_.out (by kernel_rfl)) (fun _ _ _ h => h) (Or.inl ⟨by rfl, ?_⟩) ?_ ?_
                             rotate_left
                             ·intro w'
                              go_simp
                              with_reducible rfl
                             rotate_left
                             ·simp only [Act.put, List.setIfInBounds_toArray, List.set_cons_zero, List.set_cons_succ, i64_w, i32_w]
                              rfl
                             refine pure_ (i := 2) (N := some 51) (v := ?_) (a' := ?_) #[true, true, true, false, false, false, false, false, false, false, false, false, false, false, false] rfl rfl (any_of HT_.out (by kernel_rfl)) (fun _ _ _ h => h) (Or.inl ⟨by rfl, ?_⟩) ?_ ?_
                             rotate_left
                             ·intro w'
                              go_simp
                              with_reducible rfl
                             rotate_left
                             ·simp only [Act.put, List.setIfInBounds_toArray, List.set_cons_zero, List.set_cons_succ, i64_w, i32_w]
                              rfl
                             refine pure_ (i := 9) (N := some 58) (v := ?_) (a' := ?_) #[true, true, true, false, false, false, false, false, false, true, false, false, false, false, false] rfl rfl (any_of HT_.out (by kernel_rfl)) (fun _ _ _ h => h) (Or.inl ⟨by rfl, ?_⟩) ?_ ?_
                             rotate_left
                             ·intro w'
                              go_simp
                              with_reducible rfl
                             rotate_left
                             ·simp only [Act.put, List.setIfInBounds_toArray, List.set_cons_zero, List.set_cons_succ, i64_w, i32_w]
                              rfl
                             refine take_ (i := 3) (N := some 52) (v := ?_) (a' := ?_) #[true, true, true, true, false, false, false, false, false, true, false, false, false, false, false] rfl rfl (take_ofW HT_.out HW_.out (by kernel_rfl)) (fun _ _ _ h => h) (Or.inl ⟨by rfl, ?_⟩) hHeld ?_ ?_
                             rotate_left
                             ·rintro w' ⟨s0, s1, s2, s3, s4, s5, s6⟩
                              go_simp
                              with_reducible rfl
                             rotate_left
                             ·simp only [Act.put, List.setIfInBounds_toArray, List.set_cons_zero, List.set_cons_succ, i64_w, i32_w]
                              rfl
                             refine pure_ (i := 4) (N := some 53) (v := ?_) (a' := ?_) #[true, true, true, true, true, false, false, false, false, true, false, false, false, false, false] rfl rfl (any_of HT_.out (by kernel_rfl)) (fun _ _ _ h => h) (Or.inl ⟨by rfl, ?_⟩) ?_ ?_
                             rotate_left
                             ·intro w'
                              go_simp
                              with_reducible rfl
                             rotate_left
                             ·simp only [Act.put, List.setIfInBounds_toArray, List.set_cons_zero, List.set_cons_succ, i64_w, i32_w]
                              rfl
                             refine pure_ (i := 5) (N := some 54) (v := ?_) (a' := ?_) #[true, true, true, true, true, true, false, false, false, true, false, false, false, false, false] rfl rfl (any_of HT_.out (by kernel_rfl)) (fun _ _ _ h => h) (Or.inl ⟨by rfl, ?_⟩) ?_ ?_
                             rotate_left
                             ·intro w'
                              go_simp
                              with_reducible rfl
                             rotate_left
                             ·simp only [Act.put, List.setIfInBounds_toArray, List.set_cons_zero, List.set_cons_succ, i64_w, i32_w]
                              rfl
                             refine take_ (i := 10) (N := some 59) (v := ?_) (a' := ?_) #[true, true, true, true, true, true, false, false, false, true, true, false, false, false, false] rfl rfl (take_ofW HT_.out HW_.out (by kernel_rfl)) (fun _ _ _ h => h) (Or.inl ⟨by rfl, ?_⟩) hHeld ?_ ?_
                             rotate_left
                             ·rintro w' ⟨s0, s1, s2, s3, s4, s5, s6⟩
                              go_simp
                              with_reducible rfl
                             rotate_left
                             ·simp only [Act.put, List.setIfInBounds_toArray, List.set_cons_zero, List.set_cons_succ, i64_w, i32_w]
                              rfl
                             refine pure_ (i := 11) (N := some 60) (v := ?_) (a' := ?_) #[true, true, true, true, true, true, false, false, false, true, true, true, false, false, false] rfl rfl (any_of HT_.out (by kernel_rfl)) (fun _ _ _ h => h) (Or.inl ⟨by rfl, ?_⟩) ?_ ?_
                             rotate_left
                             ·intro w'
                              go_simp
                              with_reducible rfl
                             rotate_left
                             ·simp only [Act.put, List.setIfInBounds_toArray, List.set_cons_zero, List.set_cons_succ, i64_w, i32_w]
                              rfl
                             refine one_ (i := 6) (N := some 55) #[true, true, true, true, true, true, true, false, false, true, true, true, false, false, false] rfl rfl (one_of HT_.out (by kernel_rfl)) (by decide) (fun K hK => ?_)
                             refine goes_ Tryd.func48 (by kernel_rfl) rfl #[.int .u64 (IntKind.u64.wrap (wrap64 (8 * ((rd_T55 l0_0 x4_1).f3))))] (by rfl) rfl rfl (by (try simp only [List.map_toArray, List.map_cons, List.map_nil]); first | done | rfl | (simp only [List.length_drop, List.length_take]; rfl)) ?_
                             with_reducible refine (stockaderef18_digits.calls kj31 (IntKind.u64.wrap (wrap64 (8 * ((rd_T55 l0_0 x4_1).f3)))) t324 _ A40.out).mono ?_
                             rintro e w70 ⟨rfl, hb⟩
                             refine ⟨_, rfl, ?_⟩
                             have n0_ := Aside0.mk (blk_below (g := gb319) (o := .cells #[.slice (some ad322) l0_0.length c0_0, .int .u32 a0_1] 46 (0, 0)) bk_now hb)
                             have n1_ := Aside0.mk (blk_below (g := gb323) (o := .cells #[.bool ((rd_T55 l0_0 x4_1).f0), .int .i64 ((rd_T55 l0_0 x4_1).f1), .int .i64 ((rd_T55 l0_0 x4_1).f2), .int .i64 ((rd_T55 l0_0 x4_1).f3), .int .u64 ((rd_T55 l0_0 x4_1).f4), .int .u64 ((rd_T55 l0_0 x4_1).f5), .int .u64 ((rd_T55 l0_0 x4_1).f6)] 55 (0, 0)) bk_now hb)
                             have n2_ := Aside0.mk (below_step b_now hb)
                             clear BK319
                             clear BK323
                             clear HB
                             have BK319 := n0_
                             have BK323 := n1_
                             have HB := n2_
                             clear n0_ n1_ n2_
                             (try clear hb)
                             (try clear hb2)
                             (try clear hk)
                             (try clear hi)
                             refine hK.out _ _ ⟨(blk_cell BK323.out 0).trans rfl, (blk_cell BK323.out 1).trans rfl, (blk_cell BK323.out 2).trans rfl, (blk_cell BK323.out 3).trans rfl, (blk_cell BK323.out 4).trans rfl, (blk_cell BK323.out 5).trans rfl, (blk_cell BK323.out 6).trans rfl⟩ (fun hHeld => ?_)
                             clear hK K
                             refine norm_ (a' := ?_) ?_ ?_
                             rotate_left
                             ·show Act.put _ (some 55) _ = _
                              simp only [Act.put, List.setIfInBounds_toArray, List.set_cons_zero, List.set_cons_succ, i64_w, i32_w]
                              rfl
                             refine pure_ (i := 7) (N := some 56) (v := ?_) (a' := ?_) #[true, true, true, true, true, true, true, true, false, true, true, true, false, false, false] rfl rfl (any_of HT_.out (by kernel_rfl)) (fun _ _ _ h => h) (Or.inl ⟨by rfl, ?_⟩) ?_ ?_
                             rotate_left
                             ·intro w'
                              go_simp
                              with_reducible rfl
                             rotate_left
                             ·simp only [Act.put, List.setIfInBounds_toArray, List.set_cons_zero, List.set_cons_succ, i64_w, i32_w]
                              rfl
                             refine pure_ (i := 8) (N := some 57) (v := ?_) (a' := ?_) #[true, true, true, true, true, true, true, true, true, true, true, true, false, false, false] rfl rfl (any_of HT_.out (by kernel_rfl)) (fun _ _ _ h => h) (Or.inl ⟨by rfl, ?_⟩) ?_ ?_
                             rotate_left
                             ·intro w'
                              go_simp
                              with_reducible rfl
                             rotate_left
                             ·simp only [Act.put, List.setIfInBounds_toArray, List.set_cons_zero, List.set_cons_succ, i64_w, i32_w]
                              rfl
                             refine one_ (i := 12) (N := some 61) #[true, true, true, true, true, true, true, true, true, true, true, true, true, false, false] rfl rfl (one_of HT_.out (by kernel_rfl)) (by decide) (fun K hK => ?_)
                             refine goes_ Tryd.func48 (by kernel_rfl) rfl #[.int .u64 (IntKind.u64.wrap (((rd_T55 l0_0 x4_1).f2)))] (by rfl) rfl rfl (by (try simp only [List.map_toArray, List.map_cons, List.map_nil]); first | done | rfl | (simp only [List.length_drop, List.length_take]; rfl)) ?_
                             with_reducible refine (stockaderef18_digits.calls kj31 (IntKind.u64.wrap (((rd_T55 l0_0 x4_1).f2))) t325 _ A43.out).mono ?_
                             rintro e w71 ⟨rfl, hb⟩
                             refine ⟨_, rfl, ?_⟩
                             have n0_ := Aside0.mk (blk_below (g := gb319) (o := .cells #[.slice (some ad322) l0_0.length c0_0, .int .u32 a0_1] 46 (0, 0)) bk_now hb)
                             have n1_ := Aside0.mk (blk_below (g := gb323) (o := .cells #[.bool ((rd_T55 l0_0 x4_1).f0), .int .i64 ((rd_T55 l0_0 x4_1).f1), .int .i64 ((rd_T55 l0_0 x4_1).f2), .int .i64 ((rd_T55 l0_0 x4_1).f3), .int .u64 ((rd_T55 l0_0 x4_1).f4), .int .u64 ((rd_T55 l0_0 x4_1).f5), .int .u64 ((rd_T55 l0_0 x4_1).f6)] 55 (0, 0)) bk_now hb)
                             have n2_ := Aside0.mk (below_step b_now hb)
                             clear BK319
                             clear BK323
                             clear HB
                             have BK319 := n0_
                             have BK323 := n1_
                             have HB := n2_
                             clear n0_ n1_ n2_
                             (try clear hb)
                             (try clear hb2)
                             (try clear hk)
                             (try clear hi)
                             refine hK.out _ _ ⟨(blk_cell BK323.out 0).trans rfl, (blk_cell BK323.out 1).trans rfl, (blk_cell BK323.out 2).trans rfl, (blk_cell BK323.out 3).trans rfl, (blk_cell BK323.out 4).trans rfl, (blk_cell BK323.out 5).trans rfl, (blk_cell BK323.out 6).trans rfl⟩ (fun hHeld => ?_)
                             clear hK K
                             refine norm_ (a' := ?_) ?_ ?_
                             rotate_left
                             ·show Act.put _ (some 61) _ = _
                              simp only [Act.put, List.setIfInBounds_toArray, List.set_cons_zero, List.set_cons_succ, i64_w, i32_w]
                              rfl
                             refine pure_ (i := 13) (N := some 62) (v := ?_) (a' := ?_) #[true, true, true, true, true, true, true, true, true, true, true, true, true, true, false] rfl rfl (any_of HT_.out (by kernel_rfl)) (fun _ _ _ h => h) (Or.inl ⟨by rfl, ?_⟩) ?_ ?_
                             rotate_left
                             ·intro w'
                              go_simp
                              with_reducible rfl
                             rotate_left
                             ·simp only [Act.put, List.setIfInBounds_toArray, List.set_cons_zero, List.set_cons_succ, i64_w, i32_w]
                              rfl
                             refine pure_ (i := 14) (N := some 3) (v := ?_) (a' := ?_) #[true, true, true, true, true, true, true, true, true, true, true, true, true, true, true] rfl rfl (any_of HT_.out (by kernel_rfl)) (fun _ _ _ h => h) (Or.inl ⟨by rfl, ?_⟩) ?_ ?_
                             rotate_left
                             ·intro w'
                              go_simp
                              with_reducible rfl
                             rotate_left
                             ·simp only [Act.put, List.setIfInBounds_toArray, List.set_cons_zero, List.set_cons_succ, i64_w, i32_w]
                              rfl
                             refine done_ (done_of HT_.out (by kernel_rfl)) ?_
                             try go_wp2
                             have n0_ := Aside0.mk (blk_drew BK319.out)
                             have n1_ := Aside0.mk (blk_drew BK323.out)
                             have n2_ := Aside0.mk (below_drew1 HB.out)
                             clear BK319
                             clear BK323
                             clear HB
                             have BK319 := n0_
                             have BK323 := n1_
                             have HB := n2_
                             clear n0_ n1_ n2_
                             refine start_ (n := 6) (S := fun w' => w'.cell? ⟨gb323, 0, none⟩ = some (.bool ((rd_T55 l0_0 x4_1).f0)) ∧ w'.cell? ⟨gb323, 1, none⟩ = some (.int .i64 ((rd_T55 l0_0 x4_1).f1)) ∧ w'.cell? ⟨gb323, 2, none⟩ = some (.int .i64 ((rd_T55 l0_0 x4_1).f2)) ∧ w'.cell? ⟨gb323, 3, none⟩ = some (.int .i64 ((rd_T55 l0_0 x4_1).f3)) ∧ w'.cell? ⟨gb323, 4, none⟩ = some (.int .u64 ((rd_T55 l0_0 x4_1).f4)) ∧ w'.cell? ⟨gb323, 5, none⟩ = some (.int .u64 ((rd_T55 l0_0 x4_1).f5)) ∧ w'.cell? ⟨gb323, 6, none⟩ = some (.int .u64 ((rd_T55 l0_0 x4_1).f6))) (ds := []) #[false, false, false, false, false, false] (by kernel_rfl) rfl rfl ⟨(blk_cell BK323.out 0).trans rfl, (blk_cell BK323.out 1).trans rfl, (blk_cell BK323.out 2).trans rfl, (blk_cell BK323.out 3).trans rfl, (blk_cell BK323.out 4).trans rfl, (blk_cell BK323.out 5).trans rfl, (blk_cell BK323.out 6).trans rfl⟩ (fun hHeld => ?_)
                             generalize w71.drew = w72 at BK319 BK323 HB hHeld ⊢
                             refine pure_ (i := 0) (N := some 63) (v := ?_) (a' := ?_) #[true, false, false, false, false, false] rfl rfl (by kernel_rfl) (fun _ _ _ h => h) (Or.inl ⟨by rfl, ?_⟩) ?_ ?_
                             rotate_left
                             ·intro w'
                              go_simp
                              with_reducible rfl
                             rotate_left
                             ·simp only [Act.put, List.setIfInBounds_toArray, List.set_cons_zero, List.set_cons_succ, i64_w, i32_w]
                              rfl
                             refine pure_ (i := 2) (N := some 65) (v := ?_) (a' := ?_) #[true, false, true, false, false, false] rfl rfl (by kernel_rfl) (fun _ _ _ h => h) (Or.inl ⟨by rfl, ?_⟩) ?_ ?_
                             rotate_left
                             ·intro w'
                              go_simp
                              with_reducible rfl
                             rotate_left
                             ·simp only [Act.put, List.setIfInBounds_toArray, List.set_cons_zero, List.set_cons_succ, i64_w, i32_w]
                              rfl
                             refine take_ (i := 1) (N := some 64) (v := ?_) (a' := ?_) #[true, true, true, false, false, false] rfl rfl (by kernel_rfl) (fun _ _ _ h => h) (Or.inl ⟨by rfl, ?_⟩) hHeld ?_ ?_
                             rotate_left
                             ·rintro w' ⟨s0, s1, s2, s3, s4, s5, s6⟩
                              go_simp
                              with_reducible rfl
                             rotate_left
                             ·simp only [Act.put, List.setIfInBounds_toArray, List.set_cons_zero, List.set_cons_succ, i64_w, i32_w]
                              rfl
                             refine take_ (i := 3) (N := some 66) (v := ?_) (a' := ?_) #[true, true, true, true, false, false] rfl rfl (by kernel_rfl) (fun _ _ _ h => h) (Or.inl ⟨by rfl, ?_⟩) hHeld ?_ ?_
                             rotate_left
                             ·rintro w' ⟨s0, s1, s2, s3, s4, s5, s6⟩
                              go_simp
                              with_reducible rfl
                             rotate_left
                             ·simp only [Act.put, List.setIfInBounds_toArray, List.set_cons_zero, List.set_cons_succ, i64_w, i32_w]
                              rfl
                             refine one_ (i := 4) (N := some 67) #[true, true, true, true, true, false] rfl rfl (by kernel_rfl) (by decide) (fun K hK => ?_)
                             refine goes_ Tryd.func43 (by kernel_rfl) rfl #[.int .i64 ((rd_T55 l0_0 x4_1).f3)] (by rfl) rfl rfl (by (try simp only [List.map_toArray, List.map_cons, List.map_nil]); first | done | rfl | (simp only [List.length_drop, List.length_take]; rfl)) ?_
                             with_reducible refine (stockaderef18_Full.calls kj31 ((rd_T55 l0_0 x4_1).f3) t326 _ A45.out).mono ?_
                             rintro e w' ⟨rfl, ⟨nd, rfl⟩⟩
                             refine ⟨_, rfl, ?_⟩
                             refine hK.out _ _ ⟨(blk_cell BK323.out 0).trans rfl, (blk_cell BK323.out 1).trans rfl, (blk_cell BK323.out 2).trans rfl, (blk_cell BK323.out 3).trans rfl, (blk_cell BK323.out 4).trans rfl, (blk_cell BK323.out 5).trans rfl, (blk_cell BK323.out 6).trans rfl⟩ (fun hHeld => ?_)
                             clear hK K
                             refine norm_ (a' := ?_) ?_ ?_
                             rotate_left
                             ·show Act.put _ (some 67) _ = _
                              simp only [Act.put, List.setIfInBounds_toArray, List.set_cons_zero, List.set_cons_succ, i64_w, i32_w]
                              rfl
                             refine pure_ (i := 5) (N := some 68) (v := ?_) (a' := ?_) #[true, true, true, true, true, true] rfl rfl (by kernel_rfl) (fun _ _ _ h => h) (Or.inl ⟨by rfl, ?_⟩) ?_ ?_
                             rotate_left
                             ·intro w'
                              go_simp
                              with_reducible rfl
                             rotate_left
                             ·simp only [Act.put, List.setIfInBounds_toArray, List.set_cons_zero, List.set_cons_succ, i64_w, i32_w]
                              rfl
                             refine done_ (by kernel_rfl) ?_
                             have hnb73 := NB323_319.out
                             have hnc73 := NB319_323.out
                             have hcz74 := blk_all7 BK323.out
                             try go_wp2_with (first | ((with_reducible refine gate_callee (f := 48) rfl ?_); refine sh_call (some 73) Tryd.func48 #[.int .u64 ((rd_T55 l0_0 x4_1).f4)] ?_; (with_reducible refine (stockaderef18_digits.calls kj31 ((rd_T55 l0_0 x4_1).f4) t329 _ A61.out).mono ?_); rintro e w75 ⟨rfl, hb⟩; refine ⟨_, rfl, ?_⟩; replace BK319 := sh_k BK319 hb; replace BK323 := sh_k BK323 hb; replace HB := sh_b (w := w) hb; (try clear hb); (try clear hb2); (try clear hk); (try clear hi)))
                             have n0_ := Aside0.mk (blk_drew BK319.out)
                             have n1_ := Aside0.mk (blk_drew BK323.out)
                             have n2_ := Aside0.mk (below_drew1 HB.out)
                             clear BK319
                             clear BK323
                             clear HB
                             have BK319 := n0_
                             have BK323 := n1_
                             have HB := n2_
                             clear n0_ n1_ n2_
                             refine start_ (n := 11) (S := fun w' => w'.cell? ⟨gb323, 0, none⟩ = some (.bool ((rd_T55 l0_0 x4_1).f0)) ∧ w'.cell? ⟨gb323, 1, none⟩ = some (.int .i64 ((rd_T55 l0_0 x4_1).f1)) ∧ w'.cell? ⟨gb323, 2, none⟩ = some (.int .i64 ((rd_T55 l0_0 x4_1).f2)) ∧ w'.cell? ⟨gb323, 3, none⟩ = some (.int .i64 ((rd_T55 l0_0 x4_1).f3)) ∧ w'.cell? ⟨gb323, 4, none⟩ = some (.int .u64 ((rd_T55 l0_0 x4_1).f4)) ∧ w'.cell? ⟨gb323, 5, none⟩ = some (.int .u64 ((rd_T55 l0_0 x4_1).f5)) ∧ w'.cell? ⟨gb323, 6, none⟩ = some (.int .u64 ((rd_T55 l0_0 x4_1).f6))) (ds := []) #[false, false, false, false, false, false, false, false, false, false, false] (by kernel_rfl) rfl rfl ⟨(blk_cell BK323.out 0).trans rfl, (blk_cell BK323.out 1).trans rfl, (blk_cell BK323.out 2).trans rfl, (blk_cell BK323.out 3).trans rfl, (blk_cell BK323.out 4).trans rfl, (blk_cell BK323.out 5).trans rfl, (blk_cell BK323.out 6).trans rfl⟩ (fun hHeld => ?_); refine with_tabW stockaderef18_Line.tab21 stockaderef18_Line.bits21 (fun HT_ HW_ => ?_)
                             generalize w75.drew = w76 at BK319 BK323 HB hHeld ⊢
                             refine pure_ (i := 0) (N := some 77) (v := ?_) (a' := ?_) #[true, false, false, false, false, false, false, false, false, false, false] rfl rfl (any_of HT_.out (by kernel_rfl)) (fun _ _ _ h => h) (Or.inl ⟨by rfl, ?_⟩) ?_ ?_
                             rotate_left
                             ·intro w'
                              go_simp
                              with_reducible rfl
                             rotate_left
                             ·simp only [Act.put, List.setIfInBounds_toArray, List.set_cons_zero, List.set_cons_succ, i64_w, i32_w]
                              rfl
                             refine pure_ (i := 1) (N := some 78) (v := ?_) (a' := ?_) #[true, true, false, false, false, false, false, false, false, false, false] rfl rfl (any_of HT_.out (by kernel_rfl)) (fun _ _ _ h => h) (Or.inl ⟨by rfl, ?_⟩) ?_ ?_
                             rotate_left
                             ·intro w'
                              go_simp
                              with_reducible rfl
                             rotate_left
                             ·simp only [Act.put, List.setIfInBounds_toArray, List.set_cons_zero, List.set_cons_succ, i64_w, i32_w]
                              rfl
                             refine pure_ (i := 6) (N := some 83) (v := ?_) (a' := ?_) #[true, true, false, false, false, false, true, false, false, false, false] rfl rfl (any_of HT_.out (by kernel_rfl)) (fun _ _ _ h => h) (Or.inl ⟨by rfl, ?_⟩) ?_ ?_
                             rotate_left
                             ·intro w'
                              go_simp
                              with_reducible rfl
                             rotate_left
                             ·simp only [Act.put, List.setIfInBounds_toArray, List.set_cons_zero, List.set_cons_succ, i64_w, i32_w]
                              rfl
                             refine take_ (i := 2) (N := some 79) (v := ?_) (a' := ?_) #[true, true, true, false, false, false, true, false, false, false, false] rfl rfl (take_ofW HT_.out HW_.out (by kernel_rfl)) (fun _ _ _ h => h) (Or.inl ⟨by rfl, ?_⟩) hHeld ?_ ?_
                             rotate_left
                             ·rintro w' ⟨s0, s1, s2, s3, s4, s5, s6⟩
                              go_simp
                              with_reducible rfl
                             rotate_left
                             ·simp only [Act.put, List.setIfInBounds_toArray, List.set_cons_zero, List.set_cons_succ, i64_w, i32_w]
                              rfl
                             refine take_ (i := 7) (N := some 84) (v := ?_) (a' := ?_) #[true, true, true, false, false, false, true, true, false, false, false] rfl rfl (take_ofW HT_.out HW_.out (by kernel_rfl)) (fun _ _ _ h => h) (Or.inl ⟨by rfl, ?_⟩) hHeld ?_ ?_
                             rotate_left
                             ·rintro w' ⟨s0, s1, s2, s3, s4, s5, s6⟩
                              go_simp
                              with_reducible rfl
                             rotate_left
                             ·simp only [Act.put, List.setIfInBounds_toArray, List.set_cons_zero, List.set_cons_succ, i64_w, i32_w]
                              rfl
                             refine one_ (i := 3) (N := some 80) #[true, true, true, true, false, false, true, true, false, false, false] rfl rfl (one_of HT_.out (by kernel_rfl)) (by decide) (fun K hK => ?_)
                             refine goes_ Tryd.func48 (by kernel_rfl) rfl #[.int .u64 ((rd_T55 l0_0 x4_1).f5)] (by rfl) rfl rfl (by (try simp only [List.map_toArray, List.map_cons, List.map_nil]); first | done | rfl | (simp only [List.length_drop, List.length_take]; rfl)) ?_
                             with_reducible refine (stockaderef18_digits.calls kj31 ((rd_T55 l0_0 x4_1).f5) t330 _ A64.out).mono ?_
                             rintro e w77 ⟨rfl, hb⟩
                             refine ⟨_, rfl, ?_⟩
                             have n0_ := Aside0.mk (blk_below (g := gb319) (o := .cells #[.slice (some ad322) l0_0.length c0_0, .int .u32 a0_1] 46 (0, 0)) bk_now hb)
                             have n1_ := Aside0.mk (blk_below (g := gb323) (o := .cells #[.bool ((rd_T55 l0_0 x4_1).f0), .int .i64 ((rd_T55 l0_0 x4_1).f1), .int .i64 ((rd_T55 l0_0 x4_1).f2), .int .i64 ((rd_T55 l0_0 x4_1).f3), .int .u64 ((rd_T55 l0_0 x4_1).f4), .int .u64 ((rd_T55 l0_0 x4_1).f5), .int .u64 ((rd_T55 l0_0 x4_1).f6)] 55 (0, 0)) bk_now hb)
                             have n2_ := Aside0.mk (below_step b_now hb)
                             clear BK319
                             clear BK323
                             clear HB
                             have BK319 := n0_
                             have BK323 := n1_
                             have HB := n2_
                             clear n0_ n1_ n2_
                             (try clear hb)
                             (try clear hb2)
                             (try clear hk)
                             (try clear hi)
                             refine hK.out _ _ ⟨(blk_cell BK323.out 0).trans rfl, (blk_cell BK323.out 1).trans rfl, (blk_cell BK323.out 2).trans rfl, (blk_cell BK323.out 3).trans rfl, (blk_cell BK323.out 4).trans rfl, (blk_cell BK323.out 5).trans rfl, (blk_cell BK323.out 6).trans rfl⟩ (fun hHeld => ?_)
                             clear hK K
                             refine norm_ (a' := ?_) ?_ ?_
                             rotate_left
                             ·show Act.put _ (some 80) _ = _
                              simp only [Act.put, List.setIfInBounds_toArray, List.set_cons_zero, List.set_cons_succ, i64_w, i32_w]
                              rfl
                             refine pure_ (i := 4) (N := some 81) (v := ?_) (a' := ?_) #[true, true, true, true, true, false, true, true, false, false, false] rfl rfl (any_of HT_.out (by kernel_rfl)) (fun _ _ _ h => h) (Or.inl ⟨by rfl, ?_⟩) ?_ ?_
                             rotate_left
                             ·intro w'
                              go_simp
                              with_reducible rfl
                             rotate_left
                             ·simp only [Act.put, List.setIfInBounds_toArray, List.set_cons_zero, List.set_cons_succ, i64_w, i32_w]
                              rfl
                             refine pure_ (i := 5) (N := some 82) (v := ?_) (a' := ?_) #[true, true, true, true, true, true, true, true, false, false, false] rfl rfl (any_of HT_.out (by kernel_rfl)) (fun _ _ _ h => h) (Or.inl ⟨by rfl, ?_⟩) ?_ ?_
                             rotate_left
                             ·intro w'
                              go_simp
                              with_reducible rfl
                             rotate_left
                             ·simp only [Act.put, List.setIfInBounds_toArray, List.set_cons_zero, List.set_cons_succ, i64_w, i32_w]
                              rfl
                             refine one_ (i := 8) (N := some 85) #[true, true, true, true, true, true, true, true, true, false, false] rfl rfl (one_of HT_.out (by kernel_rfl)) (by decide) (fun K hK => ?_)
                             refine goes_ Tryd.func48 (by kernel_rfl) rfl #[.int .u64 ((rd_T55 l0_0 x4_1).f6)] (by rfl) rfl rfl (by (try simp only [List.map_toArray, List.map_cons, List.map_nil]); first | done | rfl | (simp only [List.length_drop, List.length_take]; rfl)) ?_
                             with_reducible refine (stockaderef18_digits.calls kj31 ((rd_T55 l0_0 x4_1).f6) t331 _ A67.out).mono ?_
                             rintro e w78 ⟨rfl, hb⟩
                             refine ⟨_, rfl, ?_⟩
                             have n0_ := Aside0.mk (blk_below (g := gb319) (o := .cells #[.slice (some ad322) l0_0.length c0_0, .int .u32 a0_1] 46 (0, 0)) bk_now hb)
                             have n1_ := Aside0.mk (blk_below (g := gb323) (o := .cells #[.bool ((rd_T55 l0_0 x4_1).f0), .int .i64 ((rd_T55 l0_0 x4_1).f1), .int .i64 ((rd_T55 l0_0 x4_1).f2), .int .i64 ((rd_T55 l0_0 x4_1).f3), .int .u64 ((rd_T55 l0_0 x4_1).f4), .int .u64 ((rd_T55 l0_0 x4_1).f5), .int .u64 ((rd_T55 l0_0 x4_1).f6)] 55 (0, 0)) bk_now hb)
                             have n2_ := Aside0.mk (below_step b_now hb)
                             clear BK319
                             clear BK323
                             clear HB
                             have BK319 := n0_
                             have BK323 := n1_
                             have HB := n2_
                             clear n0_ n1_ n2_
                             (try clear hb)
                             (try clear hb2)
                             (try clear hk)
                             (try clear hi)
                             refine hK.out _ _ ⟨(blk_cell BK323.out 0).trans rfl, (blk_cell BK323.out 1).trans rfl, (blk_cell BK323.out 2).trans rfl, (blk_cell BK323.out 3).trans rfl, (blk_cell BK323.out 4).trans rfl, (blk_cell BK323.out 5).trans rfl, (blk_cell BK323.out 6).trans rfl⟩ (fun hHeld => ?_)
                             clear hK K
                             refine norm_ (a' := ?_) ?_ ?_
                             rotate_left
                             ·show Act.put _ (some 85) _ = _
                              simp only [Act.put, List.setIfInBounds_toArray, List.set_cons_zero, List.set_cons_succ, i64_w, i32_w]
                              rfl
                             refine pure_ (i := 9) (N := some 86) (v := ?_) (a' := ?_) #[true, true, true, true, true, true, true, true, true, true, false] rfl rfl (any_of HT_.out (by kernel_rfl)) (fun _ _ _ h => h) (Or.inl ⟨by rfl, ?_⟩) ?_ ?_
                             rotate_left
                             ·intro w'
                              go_simp
                              with_reducible rfl
                             rotate_left
                             ·simp only [Act.put, List.setIfInBounds_toArray, List.set_cons_zero, List.set_cons_succ, i64_w, i32_w]
                              rfl
                             refine pure_ (i := 10) (N := some 3) (v := ?_) (a' := ?_) #[true, true, true, true, true, true, true, true, true, true, true] rfl rfl (any_of HT_.out (by kernel_rfl)) (fun _ _ _ h => h) (Or.inl ⟨by rfl, ?_⟩) ?_ ?_
                             rotate_left
                             ·intro w'
                              go_simp
                              with_reducible rfl
                             rotate_left
                             ·simp only [Act.put, List.setIfInBounds_toArray, List.set_cons_zero, List.set_cons_succ, i64_w, i32_w]
                              rfl
                             refine done_ (done_of HT_.out (by kernel_rfl)) ?_
                             try go_wp2
                             go_roundg kj31
                             case measure => have := HK1.out; have := HJ4.out; have := HJ11.out; have := HJ16.out; have := HJ21.out; have := HJ26.out; have := HJ31.out; omega
                             case rel => exact ⟨((((((((((x3_26 ++ (⟨#[117]⟩ : ByteArray)) ++ t324) ++ (⟨#[64]⟩ : ByteArray)) ++ t325) ++ (⟨#[47]⟩ : ByteArray)) ++ t329) ++ (⟨#[32]⟩ : ByteArray)) ++ t330) ++ (⟨#[46, 46]⟩ : ByteArray)) ++ t331), (wrap64 (x4_1 + 1)), eq_now, eq_now, H', ⟨by have := HK1.out; have := HJ4.out; have := HJ11.out; have := HJ16.out; have := HJ21.out; have := HJ26.out; have := HJ31.out; omega⟩, ⟨bk_now⟩, ⟨b_now⟩⟩
                            ·rw [if_neg c68] at H
                             exact absurd H (by simp)
                           ·rw [if_neg c66] at H
                            exact absurd H (by simp)
                          ·rw [if_neg c65] at H
                           exact absurd H (by simp)
                         ·rw [if_neg c63] at H
                          exact absurd H (by simp)
                        ·rw [if_neg c62] at H
                         exact absurd H (by simp)
                       ·rw [if_neg c60] at H
                        exact absurd H (by simp)
                     ·rw [if_neg c44] at H
                      exact absurd H (by simp)
                    ·rw [if_neg c42] at H
                     exact absurd H (by simp)
                   ·rw [if_neg c41] at H
                    exact absurd H (by simp)
                  ·rw [if_neg c39] at H
                   exact absurd H (by simp)
                 ·replace c38 := Bool.eq_false_iff.mpr c38
                  subst c38
                  replace H := sh_f H
                  replace H := Option.bind_eq_some_iff.mp H; obtain ⟨t332, A790, H⟩ := H; try dsimp only at H
                  have A79 := Aside0.mk A790
                  clear A790
                  by_cases c80 : x3_26.size + t332.size ≤ 9223372036854775807
                  ·rw [if_pos c80] at H
                   have c80b0 := eq_true c80
                   have c80b1 : decide (x3_26.size + t332.size ≤ 9223372036854775807) = true := decide_eq_true c80
                   try have c80b2 : (9223372036854775807 < x3_26.size + t332.size) = False := eq_false (Nat.not_lt.2 c80)
                   by_cases c81 : (x3_26 ++ t332).size + 2 ≤ 9223372036854775807
                   ·rw [if_pos c81] at H
                    have c81b0 := eq_true c81
                    have c81_y0 : ((9223372036854775807 < x3_26.size + t332.size + 2) : Prop) = False := eq_false (by have h_ := c81; simp only [ByteArray.size_append] at h_; exact Nat.not_lt.2 h_)
                    have c81_z0 : ((x3_26.size + t332.size + 2 ≤ 9223372036854775807) : Prop) = True := eq_true (by have h_ := c81; simp only [ByteArray.size_append] at h_; exact h_)
                    have c81b1 : decide ((x3_26 ++ t332).size + 2 ≤ 9223372036854775807) = true := decide_eq_true c81
                    try have c81b2 : (9223372036854775807 < (x3_26 ++ t332).size + 2) = False := eq_false (Nat.not_lt.2 c81)
                    replace H := Option.bind_eq_some_iff.mp H; obtain ⟨t333, A820, H⟩ := H; try dsimp only at H
                    have A82 := Aside0.mk A820
                    clear A820
                    by_cases c83 : ((x3_26 ++ t332) ++ (⟨#[46, 46]⟩ : ByteArray)).size + t333.size ≤ 9223372036854775807
                    ·rw [if_pos c83] at H
                     have c83b0 := eq_true c83
                     have c83_y0 : ((9223372036854775807 < x3_26.size + t332.size + 2 + t333.size) : Prop) = False := eq_false (by have h_ := c83; simp only [ByteArray.size_append] at h_; exact Nat.not_lt.2 h_)
                     have c83_z0 : ((x3_26.size + t332.size + 2 + t333.size ≤ 9223372036854775807) : Prop) = True := eq_true (by have h_ := c83; simp only [ByteArray.size_append] at h_; exact h_)
                     have c83b1 : decide (((x3_26 ++ t332) ++ (⟨#[46, 46]⟩ : ByteArray)).size + t333.size ≤ 9223372036854775807) = true := decide_eq_true c83
                     try have c83b2 : (9223372036854775807 < ((x3_26 ++ t332) ++ (⟨#[46, 46]⟩ : ByteArray)).size + t333.size) = False := eq_false (Nat.not_lt.2 c83)
                     have H' := Aside0.mk H
                     clear H
                     try go_wp2
                     have n0_ := Aside0.mk (blk_drew BK319.out)
                     have n1_ := Aside0.mk (blk_drew BK323.out)
                     have n2_ := Aside0.mk (below_drew1 HB.out)
                     clear BK319
                     clear BK323
                     clear HB
                     have BK319 := n0_
                     have BK323 := n1_
                     have HB := n2_
                     clear n0_ n1_ n2_
                     refine start_ (n := 11) (S := fun w' => w'.cell? ⟨gb323, 0, none⟩ = some (.bool ((rd_T55 l0_0 x4_1).f0)) ∧ w'.cell? ⟨gb323, 1, none⟩ = some (.int .i64 ((rd_T55 l0_0 x4_1).f1)) ∧ w'.cell? ⟨gb323, 2, none⟩ = some (.int .i64 ((rd_T55 l0_0 x4_1).f2)) ∧ w'.cell? ⟨gb323, 3, none⟩ = some (.int .i64 ((rd_T55 l0_0 x4_1).f3)) ∧ w'.cell? ⟨gb323, 4, none⟩ = some (.int .u64 ((rd_T55 l0_0 x4_1).f4)) ∧ w'.cell? ⟨gb323, 5, none⟩ = some (.int .u64 ((rd_T55 l0_0 x4_1).f5)) ∧ w'.cell? ⟨gb323, 6, none⟩ = some (.int .u64 ((rd_T55 l0_0 x4_1).f6))) (ds := []) #[false, false, false, false, false, false, false, false, false, false, false] (by kernel_rfl) rfl rfl ⟨(blk_cell BK323.out 0).trans rfl, (blk_cell BK323.out 1).trans rfl, (blk_cell BK323.out 2).trans rfl, (blk_cell BK323.out 3).trans rfl, (blk_cell BK323.out 4).trans rfl, (blk_cell BK323.out 5).trans rfl, (blk_cell BK323.out 6).trans rfl⟩ (fun hHeld => ?_); refine with_tabW stockaderef18_Line.tab21 stockaderef18_Line.bits21 (fun HT_ HW_ => ?_)
                     generalize wc.drew = w84 at BK319 BK323 HB hHeld ⊢
                     refine pure_ (i := 0) (N := some 77) (v := ?_) (a' := ?_) #[true, false, false, false, false, false, false, false, false, false, false] rfl rfl (any_of HT_.out (by kernel_rfl)) (fun _ _ _ h => h) (Or.inl ⟨by rfl, ?_⟩) ?_ ?_
                     rotate_left
                     ·intro w'
                      go_simp
                      with_reducible rfl
                     rotate_left
                     ·simp only [Act.put, List.setIfInBounds_toArray, List.set_cons_zero, List.set_cons_succ, i64_w, i32_w]
                      rfl
                     refine pure_ (i := 1) (N := some 78) (v := ?_) (a' := ?_) #[true, true, false, false, false, false, false, false, false, false, false] rfl rfl (any_of HT_.out (by kernel_rfl)) (fun _ _ _ h => h) (Or.inl ⟨by rfl, ?_⟩) ?_ ?_
                     rotate_left
                     ·intro w'
                      go_simp
                      with_reducible rfl
                     rotate_left
                     ·simp only [Act.put, List.setIfInBounds_toArray, List.set_cons_zero, List.set_cons_succ, i64_w, i32_w]
                      rfl
                     refine pure_ (i := 6) (N := some 83) (v := ?_) (a' := ?_) #[true, true, false, false, false, false, true, false, false, false, false] rfl rfl (any_of HT_.out (by kernel_rfl)) (fun _ _ _ h => h) (Or.inl ⟨by rfl, ?_⟩) ?_ ?_
                     rotate_left
                     ·intro w'
                      go_simp
                      with_reducible rfl
                     rotate_left
                     ·simp only [Act.put, List.setIfInBounds_toArray, List.set_cons_zero, List.set_cons_succ, i64_w, i32_w]
                      rfl
                     refine take_ (i := 2) (N := some 79) (v := ?_) (a' := ?_) #[true, true, true, false, false, false, true, false, false, false, false] rfl rfl (take_ofW HT_.out HW_.out (by kernel_rfl)) (fun _ _ _ h => h) (Or.inl ⟨by rfl, ?_⟩) hHeld ?_ ?_
                     rotate_left
                     ·rintro w' ⟨s0, s1, s2, s3, s4, s5, s6⟩
                      go_simp
                      with_reducible rfl
                     rotate_left
                     ·simp only [Act.put, List.setIfInBounds_toArray, List.set_cons_zero, List.set_cons_succ, i64_w, i32_w]
                      rfl
                     refine take_ (i := 7) (N := some 84) (v := ?_) (a' := ?_) #[true, true, true, false, false, false, true, true, false, false, false] rfl rfl (take_ofW HT_.out HW_.out (by kernel_rfl)) (fun _ _ _ h => h) (Or.inl ⟨by rfl, ?_⟩) hHeld ?_ ?_
                     rotate_left
                     ·rintro w' ⟨s0, s1, s2, s3, s4, s5, s6⟩
                      go_simp
                      with_reducible rfl
                     rotate_left
                     ·simp only [Act.put, List.setIfInBounds_toArray, List.set_cons_zero, List.set_cons_succ, i64_w, i32_w]
                      rfl
                     refine one_ (i := 3) (N := some 80) #[true, true, true, true, false, false, true, true, false, false, false] rfl rfl (one_of HT_.out (by kernel_rfl)) (by decide) (fun K hK => ?_)
                     refine goes_ Tryd.func48 (by kernel_rfl) rfl #[.int .u64 ((rd_T55 l0_0 x4_1).f5)] (by rfl) rfl rfl (by (try simp only [List.map_toArray, List.map_cons, List.map_nil]); first | done | rfl | (simp only [List.length_drop, List.length_take]; rfl)) ?_
                     with_reducible refine (stockaderef18_digits.calls kj31 ((rd_T55 l0_0 x4_1).f5) t332 _ A79.out).mono ?_
                     rintro e w85 ⟨rfl, hb⟩
                     refine ⟨_, rfl, ?_⟩
                     have n0_ := Aside0.mk (blk_below (g := gb319) (o := .cells #[.slice (some ad322) l0_0.length c0_0, .int .u32 a0_1] 46 (0, 0)) bk_now hb)
                     have n1_ := Aside0.mk (blk_below (g := gb323) (o := .cells #[.bool ((rd_T55 l0_0 x4_1).f0), .int .i64 ((rd_T55 l0_0 x4_1).f1), .int .i64 ((rd_T55 l0_0 x4_1).f2), .int .i64 ((rd_T55 l0_0 x4_1).f3), .int .u64 ((rd_T55 l0_0 x4_1).f4), .int .u64 ((rd_T55 l0_0 x4_1).f5), .int .u64 ((rd_T55 l0_0 x4_1).f6)] 55 (0, 0)) bk_now hb)
                     have n2_ := Aside0.mk (below_step b_now hb)
                     clear BK319
                     clear BK323
                     clear HB
                     have BK319 := n0_
                     have BK323 := n1_
                     have HB := n2_
                     clear n0_ n1_ n2_
                     (try clear hb)
                     (try clear hb2)
                     (try clear hk)
                     (try clear hi)
                     refine hK.out _ _ ⟨(blk_cell BK323.out 0).trans rfl, (blk_cell BK323.out 1).trans rfl, (blk_cell BK323.out 2).trans rfl, (blk_cell BK323.out 3).trans rfl, (blk_cell BK323.out 4).trans rfl, (blk_cell BK323.out 5).trans rfl, (blk_cell BK323.out 6).trans rfl⟩ (fun hHeld => ?_)
                     clear hK K
                     refine norm_ (a' := ?_) ?_ ?_
                     rotate_left
                     ·show Act.put _ (some 80) _ = _
                      simp only [Act.put, List.setIfInBounds_toArray, List.set_cons_zero, List.set_cons_succ, i64_w, i32_w]
                      rfl
                     refine pure_ (i := 4) (N := some 81) (v := ?_) (a' := ?_) #[true, true, true, true, true, false, true, true, false, false, false] rfl rfl (any_of HT_.out (by kernel_rfl)) (fun _ _ _ h => h) (Or.inl ⟨by rfl, ?_⟩) ?_ ?_
                     rotate_left
                     ·intro w'
                      go_simp
                      with_reducible rfl
                     rotate_left
                     ·simp only [Act.put, List.setIfInBounds_toArray, List.set_cons_zero, List.set_cons_succ, i64_w, i32_w]
                      rfl
                     refine pure_ (i := 5) (N := some 82) (v := ?_) (a' := ?_) #[true, true, true, true, true, true, true, true, false, false, false] rfl rfl (any_of HT_.out (by kernel_rfl)) (fun _ _ _ h => h) (Or.inl ⟨by rfl, ?_⟩) ?_ ?_
                     rotate_left
                     ·intro w'
                      go_simp
                      with_reducible rfl
                     rotate_left
                     ·simp only [Act.put, List.setIfInBounds_toArray, List.set_cons_zero, List.set_cons_succ, i64_w, i32_w]
                      rfl
                     refine one_ (i := 8) (N := some 85) #[true, true, true, true, true, true, true, true, true, false, false] rfl rfl (one_of HT_.out (by kernel_rfl)) (by decide) (fun K hK => ?_)
                     refine goes_ Tryd.func48 (by kernel_rfl) rfl #[.int .u64 ((rd_T55 l0_0 x4_1).f6)] (by rfl) rfl rfl (by (try simp only [List.map_toArray, List.map_cons, List.map_nil]); first | done | rfl | (simp only [List.length_drop, List.length_take]; rfl)) ?_
                     with_reducible refine (stockaderef18_digits.calls kj31 ((rd_T55 l0_0 x4_1).f6) t333 _ A82.out).mono ?_
                     rintro e w86 ⟨rfl, hb⟩
                     refine ⟨_, rfl, ?_⟩
                     have n0_ := Aside0.mk (blk_below (g := gb319) (o := .cells #[.slice (some ad322) l0_0.length c0_0, .int .u32 a0_1] 46 (0, 0)) bk_now hb)
                     have n1_ := Aside0.mk (blk_below (g := gb323) (o := .cells #[.bool ((rd_T55 l0_0 x4_1).f0), .int .i64 ((rd_T55 l0_0 x4_1).f1), .int .i64 ((rd_T55 l0_0 x4_1).f2), .int .i64 ((rd_T55 l0_0 x4_1).f3), .int .u64 ((rd_T55 l0_0 x4_1).f4), .int .u64 ((rd_T55 l0_0 x4_1).f5), .int .u64 ((rd_T55 l0_0 x4_1).f6)] 55 (0, 0)) bk_now hb)
                     have n2_ := Aside0.mk (below_step b_now hb)
                     clear BK319
                     clear BK323
                     clear HB
                     have BK319 := n0_
                     have BK323 := n1_
                     have HB := n2_
                     clear n0_ n1_ n2_
                     (try clear hb)
                     (try clear hb2)
                     (try clear hk)
                     (try clear hi)
                     refine hK.out _ _ ⟨(blk_cell BK323.out 0).trans rfl, (blk_cell BK323.out 1).trans rfl, (blk_cell BK323.out 2).trans rfl, (blk_cell BK323.out 3).trans rfl, (blk_cell BK323.out 4).trans rfl, (blk_cell BK323.out 5).trans rfl, (blk_cell BK323.out 6).trans rfl⟩ (fun hHeld => ?_)
                     clear hK K
                     refine norm_ (a' := ?_) ?_ ?_
                     rotate_left
                     ·show Act.put _ (some 85) _ = _
                      simp only [Act.put, List.setIfInBounds_toArray, List.set_cons_zero, List.set_cons_succ, i64_w, i32_w]
                      rfl
                     refine pure_ (i := 9) (N := some 86) (v := ?_) (a' := ?_) #[true, true, true, true, true, true, true, true, true, true, false] rfl rfl (any_of HT_.out (by kernel_rfl)) (fun _ _ _ h => h) (Or.inl ⟨by rfl, ?_⟩) ?_ ?_
                     rotate_left
                     ·intro w'
                      go_simp
                      with_reducible rfl
                     rotate_left
                     ·simp only [Act.put, List.setIfInBounds_toArray, List.set_cons_zero, List.set_cons_succ, i64_w, i32_w]
                      rfl
                     refine pure_ (i := 10) (N := some 3) (v := ?_) (a' := ?_) #[true, true, true, true, true, true, true, true, true, true, true] rfl rfl (any_of HT_.out (by kernel_rfl)) (fun _ _ _ h => h) (Or.inl ⟨by rfl, ?_⟩) ?_ ?_
                     rotate_left
                     ·intro w'
                      go_simp
                      with_reducible rfl
                     rotate_left
                     ·simp only [Act.put, List.setIfInBounds_toArray, List.set_cons_zero, List.set_cons_succ, i64_w, i32_w]
                      rfl
                     refine done_ (done_of HT_.out (by kernel_rfl)) ?_
                     try go_wp2
                     go_roundg kj31
                     case measure => have := HK1.out; have := HJ4.out; have := HJ11.out; have := HJ16.out; have := HJ21.out; have := HJ26.out; have := HJ31.out; omega
                     case rel => exact ⟨(((x3_26 ++ t332) ++ (⟨#[46, 46]⟩ : ByteArray)) ++ t333), (wrap64 (x4_1 + 1)), eq_now, eq_now, H', ⟨by have := HK1.out; have := HJ4.out; have := HJ11.out; have := HJ16.out; have := HJ21.out; have := HJ26.out; have := HJ31.out; omega⟩, ⟨bk_now⟩, ⟨b_now⟩⟩
                    ·rw [if_neg c83] at H
                     exact absurd H (by simp)
                   ·rw [if_neg c81] at H
                    exact absurd H (by simp)
                  ·rw [if_neg c80] at H
                   exact absurd H (by simp)
    ·rw [if_neg c4] at H
     exact absurd H (by simp)
   ·rw [if_neg c3] at H
    have c3b0 : decide (x4_1 < (l0_0.length : Int)) = false := decide_eq_false c3
    clear c3
    by_cases c87 : (l0_0.length : Int) = 0
    ·rw [if_pos c87] at H
     have c87b0 : ((l0_0.length : Int) == 0) = true := beq_iff_eq.mpr c87
     have c87b1 : ((l0_0.length : Int) != 0) = false := bne_eq_false_iff_eq.mpr c87
     clear c87
     by_cases c88 : 3 + 4 ≤ 9223372036854775807
     ·rw [if_pos c88] at H
      have c88b0 := eq_true c88
      have c88b1 : decide (3 + 4 ≤ 9223372036854775807) = true := decide_eq_true c88
      try have c88b2 : (9223372036854775807 < 3 + 4) = False := eq_false (Nat.not_lt.2 c88)
      replace H := Option.bind_eq_some_iff.mp H; obtain ⟨t320, A890, H⟩ := H; try dsimp only at H
      have A89 := Aside0.mk A890
      clear A890
      by_cases c90 : 6 + t320.size ≤ 9223372036854775807
      ·rw [if_pos c90] at H
       have c90b0 := eq_true c90
       have c90b1 : decide (6 + t320.size ≤ 9223372036854775807) = true := decide_eq_true c90
       try have c90b2 : (9223372036854775807 < 6 + t320.size) = False := eq_false (Nat.not_lt.2 c90)
       by_cases c91 : (((⟨#[97, 110, 121]⟩ : ByteArray) ++ (⟨#[32, 45, 62, 32]⟩ : ByteArray)) ++ t320).size + 1 ≤ 9223372036854775807
       ·rw [if_pos c91] at H
        have c91b0 := eq_true c91
        have c91_y0 : ((9223372036854775807 < 3 + 4 + t320.size + 1) : Prop) = False := eq_false (by have h_ := c91; simp only [ByteArray.size_append] at h_; exact Nat.not_lt.2 h_)
        have c91_z0 : ((3 + 4 + t320.size + 1 ≤ 9223372036854775807) : Prop) = True := eq_true (by have h_ := c91; simp only [ByteArray.size_append] at h_; exact h_)
        have c91_w0 : ((9223372036854775807 < 7 + t320.size) : Prop) = False := eq_false (by have h_ := of_eq_true c91_z0; omega)
        have c91_w1 : ((9223372036854775807 < 3 + 4 + t320.size) : Prop) = False := eq_false (by have h_ := of_eq_true c91_z0; omega)
        have c91_w2 : ((9223372036854775807 < 7 + t320.size + 1) : Prop) = False := eq_false (by have h_ := of_eq_true c91_z0; omega)
        have c91_w3 : ((7 + t320.size ≤ 9223372036854775807) : Prop) = True := eq_true (by have h_ := of_eq_true c91_z0; omega)
        have c91b1 : decide ((((⟨#[97, 110, 121]⟩ : ByteArray) ++ (⟨#[32, 45, 62, 32]⟩ : ByteArray)) ++ t320).size + 1 ≤ 9223372036854775807) = true := decide_eq_true c91
        try have c91b2 : (9223372036854775807 < (((⟨#[97, 110, 121]⟩ : ByteArray) ++ (⟨#[32, 45, 62, 32]⟩ : ByteArray)) ++ t320).size + 1) = False := eq_false (Nat.not_lt.2 c91)
        obtain rfl := Option.some.inj H
        have hcz92 := blk_all2 BK319.out
        go_wp2_with (first | ((with_reducible refine gate_callee (f := 48) rfl ?_); refine sh_call (some 96) Tryd.func48 #[.int .u64 (IntKind.u64.wrap (a0_1))] ?_; (with_reducible refine (stockaderef18_digits.calls k1 (IntKind.u64.wrap (a0_1)) t320 _ A89.out).mono ?_); rintro e w93 ⟨rfl, hb⟩; refine ⟨_, rfl, ?_⟩; replace BK319 := sh_k BK319 hb; replace HB := sh_b (w := w) hb; (try clear hb); (try clear hb2); (try clear hk); (try clear hi)))
        go_ret
        exact ⟨ret_now, b_now⟩
       ·rw [if_neg c91] at H
        exact absurd H (by simp)
      ·rw [if_neg c90] at H
       exact absurd H (by simp)
     ·rw [if_neg c88] at H
      exact absurd H (by simp)
    ·rw [if_neg c87] at H
     have c87b0 : ((l0_0.length : Int) == 0) = false := beq_eq_false_iff_ne.mpr c87
     have c87b1 : ((l0_0.length : Int) != 0) = true := bne_iff_ne.mpr c87
     have c87b2 : ¬ (l0_0 = []) := fun h_ => c87 (by rw [h_]; rfl)
     by_cases c94 : x3_1.size + 4 ≤ 9223372036854775807
     ·rw [if_pos c94] at H
      have c94b0 := eq_true c94
      have c94b1 : decide (x3_1.size + 4 ≤ 9223372036854775807) = true := decide_eq_true c94
      try have c94b2 : (9223372036854775807 < x3_1.size + 4) = False := eq_false (Nat.not_lt.2 c94)
      replace H := Option.bind_eq_some_iff.mp H; obtain ⟨t321, A950, H⟩ := H; try dsimp only at H
      have A95 := Aside0.mk A950
      clear A950
      by_cases c96 : (x3_1 ++ (⟨#[32, 45, 62, 32]⟩ : ByteArray)).size + t321.size ≤ 9223372036854775807
      ·rw [if_pos c96] at H
       have c96b0 := eq_true c96
       have c96_y0 : ((9223372036854775807 < x3_1.size + 4 + t321.size) : Prop) = False := eq_false (by have h_ := c96; simp only [ByteArray.size_append] at h_; exact Nat.not_lt.2 h_)
       have c96_z0 : ((x3_1.size + 4 + t321.size ≤ 9223372036854775807) : Prop) = True := eq_true (by have h_ := c96; simp only [ByteArray.size_append] at h_; exact h_)
       have c96b1 : decide ((x3_1 ++ (⟨#[32, 45, 62, 32]⟩ : ByteArray)).size + t321.size ≤ 9223372036854775807) = true := decide_eq_true c96
       try have c96b2 : (9223372036854775807 < (x3_1 ++ (⟨#[32, 45, 62, 32]⟩ : ByteArray)).size + t321.size) = False := eq_false (Nat.not_lt.2 c96)
       by_cases c97 : ((x3_1 ++ (⟨#[32, 45, 62, 32]⟩ : ByteArray)) ++ t321).size + 1 ≤ 9223372036854775807
       ·rw [if_pos c97] at H
        have c97b0 := eq_true c97
        have c97_y0 : ((9223372036854775807 < x3_1.size + 4 + t321.size + 1) : Prop) = False := eq_false (by have h_ := c97; simp only [ByteArray.size_append] at h_; exact Nat.not_lt.2 h_)
        have c97_z0 : ((x3_1.size + 4 + t321.size + 1 ≤ 9223372036854775807) : Prop) = True := eq_true (by have h_ := c97; simp only [ByteArray.size_append] at h_; exact h_)
        have c97b1 : decide (((x3_1 ++ (⟨#[32, 45, 62, 32]⟩ : ByteArray)) ++ t321).size + 1 ≤ 9223372036854775807) = true := decide_eq_true c97
        try have c97b2 : (9223372036854775807 < ((x3_1 ++ (⟨#[32, 45, 62, 32]⟩ : ByteArray)) ++ t321).size + 1) = False := eq_false (Nat.not_lt.2 c97)
        obtain rfl := Option.some.inj H
        have hcz98 := blk_all2 BK319.out
        go_wp2_with (first | ((with_reducible refine gate_callee (f := 48) rfl ?_); refine sh_call (some 96) Tryd.func48 #[.int .u64 (IntKind.u64.wrap (a0_1))] ?_; (with_reducible refine (stockaderef18_digits.calls k1 (IntKind.u64.wrap (a0_1)) t321 _ A95.out).mono ?_); rintro e w99 ⟨rfl, hb⟩; refine ⟨_, rfl, ?_⟩; replace BK319 := sh_k BK319 hb; replace HB := sh_b (w := w) hb; (try clear hb); (try clear hb2); (try clear hk); (try clear hi)))
        go_ret
        exact ⟨ret_now, b_now⟩
       ·rw [if_neg c97] at H
        exact absurd H (by simp)
      ·rw [if_neg c96] at H
       exact absurd H (by simp)
     ·rw [if_neg c94] at H
      exact absurd H (by simp)

end Go.Proofs.YtighficpbplkhaaDoor.P
