/- Made by this session's driver over the kit's printer: for each Go function a Lean function with the same answers, and a proof that the Go call comes to these answers; no conditions but the ones each theorem names. -/
import Derived.Test.YtondogoepcndiaaDoorPx0
import Derived.Test.YtondogoepcndiaaDoorPx8
import Derived.Test.YtondogoepcndiaaDoorPxXXFu
import Derived.Test.YtondogoepcndiaaDoorPxXXIt
namespace Go.Proofs.YtondogoepcndiaaDoor.P
open Go.RowKit Go.Proofs.YtondogoepcndiaaDoorW.PrintWords Go.Proofs.YtondogoepcndiaaDoorW.PrintLast Go.Proofs.YtondogoepcndiaaDoorW.PrintMore
attribute [local go_sem] max2_int min2_int max_two min_two max_three min_three max_four min_four   -- for this text's walks alone
set_option linter.unusedVariables false
set_option linter.unusedSimpArgs false

/-! ### asm_line: function 16 -/
mutual
def asm_line.j0 : Nat → Int → ByteArray → ByteArray → ByteArray → ByteArray → ByteArray → Int → Int → Int → Bool → Bool → Int → Int → Int → Int → Int → Option (ByteArray)
 | 0, _, _, _, _, _, _, _, _, _, _, _, _, _, _, _, _ => none
 | k + 1, x2, x7, x8, x9, x10, x11, x152000, x152001, x152002, x152003, x152004, x153000, x153001, x153002, x153003, x153004 => if x152004 = true then (asm_line.j1 k x2 x7 x8 x9 x10 x11 x8 x152000 x152001 x152002 x152003 x152004 x153000 x153001 x153002 x153003 x153004) else (asm_line.j1 k x2 x7 x8 x9 x10 x11 x9 x152000 x152001 x152002 x152003 x152004 x153000 x153001 x153002 x153003 x153004)
def asm_line.j1 : Nat → Int → ByteArray → ByteArray → ByteArray → ByteArray → ByteArray → ByteArray → Int → Int → Int → Bool → Bool → Int → Int → Int → Int → Int → Option (ByteArray)
 | 0, _, _, _, _, _, _, _, _, _, _, _, _, _, _, _, _, _ => none
 | k + 1, x2, x7, x8, x9, x10, x11, x12, x152000, x152001, x152002, x152003, x152004, x153000, x153001, x153002, x153003, x153004 => if x152000 = 1 then (if x152001 = 8 then (if 3 + x11.size ≤ 9223372036854775807 then (if ((⟨#[110, 101, 103]⟩ : ByteArray) ++ x11).size + 1 ≤ 9223372036854775807 then (if (((⟨#[110, 101, 103]⟩ : ByteArray) ++ x11) ++ (⟨#[32]⟩ : ByteArray)).size + x7.size ≤ 9223372036854775807 then (some ((((⟨#[110, 101, 103]⟩ : ByteArray) ++ x11) ++ (⟨#[32]⟩ : ByteArray)) ++ x7)) else (none)) else (none)) else (none)) else (if 0 ≤ x152001 then (if x152001 < 13 then (if (rdOf ByteArray.empty gl0 x152001).size + x11.size ≤ 9223372036854775807 then (if ((rdOf ByteArray.empty gl0 x152001) ++ x11).size + 1 ≤ 9223372036854775807 then (if (((rdOf ByteArray.empty gl0 x152001) ++ x11) ++ (⟨#[32]⟩ : ByteArray)).size + x7.size ≤ 9223372036854775807 then (if ((((rdOf ByteArray.empty gl0 x152001) ++ x11) ++ (⟨#[32]⟩ : ByteArray)) ++ x7).size + 2 ≤ 9223372036854775807 then (if (((((rdOf ByteArray.empty gl0 x152001) ++ x11) ++ (⟨#[32]⟩ : ByteArray)) ++ x7) ++ (⟨#[44, 32]⟩ : ByteArray)).size + x12.size ≤ 9223372036854775807 then (some ((((((rdOf ByteArray.empty gl0 x152001) ++ x11) ++ (⟨#[32]⟩ : ByteArray)) ++ x7) ++ (⟨#[44, 32]⟩ : ByteArray)) ++ x12)) else (none)) else (none)) else (none)) else (none)) else (none)) else (none)) else (none))) else (if x152000 = 2 then (if 4 + x10.size ≤ 9223372036854775807 then (if ((⟨#[115, 119, 97, 112]⟩ : ByteArray) ++ x10).size + 1 ≤ 9223372036854775807 then (if (((⟨#[115, 119, 97, 112]⟩ : ByteArray) ++ x10) ++ (⟨#[32]⟩ : ByteArray)).size + x7.size ≤ 9223372036854775807 then (some ((((⟨#[115, 119, 97, 112]⟩ : ByteArray) ++ x10) ++ (⟨#[32]⟩ : ByteArray)) ++ x7)) else (none)) else (none)) else (none)) else (if x152000 = 3 then (if 4 + x10.size ≤ 9223372036854775807 then (if ((⟨#[108, 111, 97, 100]⟩ : ByteArray) ++ x10).size + 1 ≤ 9223372036854775807 then (if (((⟨#[108, 111, 97, 100]⟩ : ByteArray) ++ x10) ++ (⟨#[32]⟩ : ByteArray)).size + x7.size ≤ 9223372036854775807 then (if ((((⟨#[108, 111, 97, 100]⟩ : ByteArray) ++ x10) ++ (⟨#[32]⟩ : ByteArray)) ++ x7).size + 2 ≤ 9223372036854775807 then (if (((((⟨#[108, 111, 97, 100]⟩ : ByteArray) ++ x10) ++ (⟨#[32]⟩ : ByteArray)) ++ x7) ++ (⟨#[44, 32]⟩ : ByteArray)).size + x8.size ≤ 9223372036854775807 then ((asm_offset.f x153003).bind fun t158 => (if ((((((⟨#[108, 111, 97, 100]⟩ : ByteArray) ++ x10) ++ (⟨#[32]⟩ : ByteArray)) ++ x7) ++ (⟨#[44, 32]⟩ : ByteArray)) ++ x8).size + t158.size ≤ 9223372036854775807 then (some (((((((⟨#[108, 111, 97, 100]⟩ : ByteArray) ++ x10) ++ (⟨#[32]⟩ : ByteArray)) ++ x7) ++ (⟨#[44, 32]⟩ : ByteArray)) ++ x8) ++ t158)) else (none))) else (none)) else (none)) else (none)) else (none)) else (none)) else (if x152000 = 4 then (if 5 + x10.size ≤ 9223372036854775807 then (if ((⟨#[115, 116, 111, 114, 101]⟩ : ByteArray) ++ x10).size + 1 ≤ 9223372036854775807 then (if (((⟨#[115, 116, 111, 114, 101]⟩ : ByteArray) ++ x10) ++ (⟨#[32]⟩ : ByteArray)).size + x7.size ≤ 9223372036854775807 then ((asm_offset.f x153003).bind fun t159 => (if ((((⟨#[115, 116, 111, 114, 101]⟩ : ByteArray) ++ x10) ++ (⟨#[32]⟩ : ByteArray)) ++ x7).size + t159.size ≤ 9223372036854775807 then (if (((((⟨#[115, 116, 111, 114, 101]⟩ : ByteArray) ++ x10) ++ (⟨#[32]⟩ : ByteArray)) ++ x7) ++ t159).size + 2 ≤ 9223372036854775807 then (if ((((((⟨#[115, 116, 111, 114, 101]⟩ : ByteArray) ++ x10) ++ (⟨#[32]⟩ : ByteArray)) ++ x7) ++ t159) ++ (⟨#[44, 32]⟩ : ByteArray)).size + x8.size ≤ 9223372036854775807 then (some (((((((⟨#[115, 116, 111, 114, 101]⟩ : ByteArray) ++ x10) ++ (⟨#[32]⟩ : ByteArray)) ++ x7) ++ t159) ++ (⟨#[44, 32]⟩ : ByteArray)) ++ x8)) else (none)) else (none)) else (none))) else (none)) else (none)) else (none)) else (if x152000 = 5 then (if 3 + x10.size ≤ 9223372036854775807 then (if ((⟨#[112, 117, 116]⟩ : ByteArray) ++ x10).size + 1 ≤ 9223372036854775807 then (if (((⟨#[112, 117, 116]⟩ : ByteArray) ++ x10) ++ (⟨#[32]⟩ : ByteArray)).size + x7.size ≤ 9223372036854775807 then ((asm_offset.f x153003).bind fun t160 => (if ((((⟨#[112, 117, 116]⟩ : ByteArray) ++ x10) ++ (⟨#[32]⟩ : ByteArray)) ++ x7).size + t160.size ≤ 9223372036854775807 then (if (((((⟨#[112, 117, 116]⟩ : ByteArray) ++ x10) ++ (⟨#[32]⟩ : ByteArray)) ++ x7) ++ t160).size + 2 ≤ 9223372036854775807 then (if ((((((⟨#[112, 117, 116]⟩ : ByteArray) ++ x10) ++ (⟨#[32]⟩ : ByteArray)) ++ x7) ++ t160) ++ (⟨#[44, 32]⟩ : ByteArray)).size + x9.size ≤ 9223372036854775807 then (some (((((((⟨#[112, 117, 116]⟩ : ByteArray) ++ x10) ++ (⟨#[32]⟩ : ByteArray)) ++ x7) ++ t160) ++ (⟨#[44, 32]⟩ : ByteArray)) ++ x9)) else (none)) else (none)) else (none))) else (none)) else (none)) else (none)) else (if x152000 = 6 then (if 0 ≤ x152001 then (if x152001 < 14 then (if (rdOf ByteArray.empty gl1 x152001).size + x11.size ≤ 9223372036854775807 then (if ((rdOf ByteArray.empty gl1 x152001) ++ x11).size + 1 ≤ 9223372036854775807 then (if (((rdOf ByteArray.empty gl1 x152001) ++ x11) ++ (⟨#[32]⟩ : ByteArray)).size + x7.size ≤ 9223372036854775807 then (if ((((rdOf ByteArray.empty gl1 x152001) ++ x11) ++ (⟨#[32]⟩ : ByteArray)) ++ x7).size + 2 ≤ 9223372036854775807 then (if (((((rdOf ByteArray.empty gl1 x152001) ++ x11) ++ (⟨#[32]⟩ : ByteArray)) ++ x7) ++ (⟨#[44, 32]⟩ : ByteArray)).size + x12.size ≤ 9223372036854775807 then (if ((((((rdOf ByteArray.empty gl1 x152001) ++ x11) ++ (⟨#[32]⟩ : ByteArray)) ++ x7) ++ (⟨#[44, 32]⟩ : ByteArray)) ++ x12).size + 2 ≤ 9223372036854775807 then ((asm_offset.f x153003).bind fun t162 => (if (((((((rdOf ByteArray.empty gl1 x152001) ++ x11) ++ (⟨#[32]⟩ : ByteArray)) ++ x7) ++ (⟨#[44, 32]⟩ : ByteArray)) ++ x12) ++ (⟨#[44, 32]⟩ : ByteArray)).size + t162.size ≤ 9223372036854775807 then (some ((((((((rdOf ByteArray.empty gl1 x152001) ++ x11) ++ (⟨#[32]⟩ : ByteArray)) ++ x7) ++ (⟨#[44, 32]⟩ : ByteArray)) ++ x12) ++ (⟨#[44, 32]⟩ : ByteArray)) ++ t162)) else (none))) else (none)) else (none)) else (none)) else (none)) else (none)) else (none)) else (none)) else (none)) else (if x152000 = 7 then ((asm_offset.f x153003).bind fun t163 => (if 5 + t163.size ≤ 9223372036854775807 then (some ((⟨#[103, 111, 116, 111, 32]⟩ : ByteArray) ++ t163)) else (none))) else (if x152000 = 8 then (if 5 + x9.size ≤ 9223372036854775807 then (some ((⟨#[99, 97, 108, 108, 32]⟩ : ByteArray) ++ x9)) else (none)) else (if x152000 = 10 then (if 6 + x7.size ≤ 9223372036854775807 then (if ((⟨#[99, 111, 110, 115, 116, 32]⟩ : ByteArray) ++ x7).size + 2 ≤ 9223372036854775807 then ((strconv_FormatUint_31.f (Go.bits .or .u64 (((x2) % 4294967296) * 4294967296) ((x153004) % 4294967296)) 10).bind fun t164 => (if (((⟨#[99, 111, 110, 115, 116, 32]⟩ : ByteArray) ++ x7) ++ (⟨#[44, 32]⟩ : ByteArray)).size + t164.size ≤ 9223372036854775807 then (some ((((⟨#[99, 111, 110, 115, 116, 32]⟩ : ByteArray) ++ x7) ++ (⟨#[44, 32]⟩ : ByteArray)) ++ t164)) else (none))) else (none)) else (none)) else (if x152000 = 11 then (if 4 + x7.size ≤ 9223372036854775807 then (if ((⟨#[109, 97, 112, 32]⟩ : ByteArray) ++ x7).size + 2 ≤ 9223372036854775807 then (if (((⟨#[109, 97, 112, 32]⟩ : ByteArray) ++ x7) ++ (⟨#[44, 32]⟩ : ByteArray)).size + x9.size ≤ 9223372036854775807 then (some ((((⟨#[109, 97, 112, 32]⟩ : ByteArray) ++ x7) ++ (⟨#[44, 32]⟩ : ByteArray)) ++ x9)) else (none)) else (none)) else (none)) else (some (⟨#[101, 120, 105, 116]⟩ : ByteArray)))))))))))
end
def asm_line.f (k : Nat) (a0_0 : Int) (a0_1 : Int) (a0_2 : Int) (a0_3 : Bool) (a0_4 : Bool) (a1_0 : Int) (a1_1 : Int) (a1_2 : Int) (a1_3 : Int) (a1_4 : Int) (a2 : Int) : Option (ByteArray) := (asm_reg.f a1_1).bind fun t153 => ((asm_reg.f a1_2).bind fun t154 => ((strconv_Itoa_29.f (wrap64 (a1_4))).bind fun t155 => ((strconv_Itoa_29.f (wrap64 (8 * a0_2))).bind fun t156 => (if a0_3 = true then (asm_line.j0 k a2 t153 t154 t155 t156 (⟨#[54, 52]⟩ : ByteArray) a0_0 a0_1 a0_2 a0_3 a0_4 a1_0 a1_1 a1_2 a1_3 a1_4) else (asm_line.j0 k a2 t153 t154 t155 t156 (⟨#[51, 50]⟩ : ByteArray) a0_0 a0_1 a0_2 a0_3 a0_4 a1_0 a1_1 a1_2 a1_3 a1_4)))))
theorem asm_line.mono_l : ∀ k, (∀ y0 y1 y2 y3 y4 y5 y6 y7 y8 y9 y10 y11 y12 y13 y14 y15, LeO (asm_line.j0 k y0 y1 y2 y3 y4 y5 y6 y7 y8 y9 y10 y11 y12 y13 y14 y15) (asm_line.j0 (k + 1) y0 y1 y2 y3 y4 y5 y6 y7 y8 y9 y10 y11 y12 y13 y14 y15)) ∧ (∀ y0 y1 y2 y3 y4 y5 y6 y7 y8 y9 y10 y11 y12 y13 y14 y15 y16, LeO (asm_line.j1 k y0 y1 y2 y3 y4 y5 y6 y7 y8 y9 y10 y11 y12 y13 y14 y15 y16) (asm_line.j1 (k + 1) y0 y1 y2 y3 y4 y5 y6 y7 y8 y9 y10 y11 y12 y13 y14 y15 y16))
 | 0 => ⟨fun _ _ _ _ _ _ _ _ _ _ _ _ _ _ _ _ r h => by simp [asm_line.j0] at h, fun _ _ _ _ _ _ _ _ _ _ _ _ _ _ _ _ _ r h => by simp [asm_line.j1] at h⟩
 | k + 1 => by
  obtain ⟨ih0, ih1⟩ := asm_line.mono_l k
  refine ⟨?_, ?_⟩
  ·intro y0 y1 y2 y3 y4 y5 y6 y7 y8 y9 y10 y11 y12 y13 y14 y15
   unfold asm_line.j0
   repeat' first
   | (with_reducible exact ih0 _ _ _ _ _ _ _ _ _ _ _ _ _ _ _ _)
   | (with_reducible exact ih1 _ _ _ _ _ _ _ _ _ _ _ _ _ _ _ _ _)
   | (with_reducible exact LeO.refl _)
   | (with_reducible exact LeO.none _)
   | (with_reducible refine LeO.ite ?_ ?_)
   | (with_reducible refine LeO.bind ?_ (fun _ => ?_))
   | refine LeO.ite ?_ ?_
   | refine LeO.bind ?_ (fun _ => ?_)
  ·intro y0 y1 y2 y3 y4 y5 y6 y7 y8 y9 y10 y11 y12 y13 y14 y15 y16
   unfold asm_line.j1
   repeat' first
   | (with_reducible exact ih0 _ _ _ _ _ _ _ _ _ _ _ _ _ _ _ _)
   | (with_reducible exact ih1 _ _ _ _ _ _ _ _ _ _ _ _ _ _ _ _ _)
   | (with_reducible exact LeO.refl _)
   | (with_reducible exact LeO.none _)
   | (with_reducible refine LeO.ite ?_ ?_)
   | (with_reducible refine LeO.bind ?_ (fun _ => ?_))
   | refine LeO.ite ?_ ?_
   | refine LeO.bind ?_ (fun _ => ?_)
theorem asm_line.mono : ∀ a0 a1 a2 a3 a4 a5 a6 a7 a8 a9 a10 k, LeO (asm_line.f k a0 a1 a2 a3 a4 a5 a6 a7 a8 a9 a10) (asm_line.f (k + 1) a0 a1 a2 a3 a4 a5 a6 a7 a8 a9 a10) := by
 intro a0 a1 a2 a3 a4 a5 a6 a7 a8 a9 a10 k
 obtain ⟨ih0, ih1⟩ := asm_line.mono_l k
 unfold asm_line.f
 repeat' first
   | (with_reducible exact ih0 _ _ _ _ _ _ _ _ _ _ _ _ _ _ _ _)
   | (with_reducible exact ih1 _ _ _ _ _ _ _ _ _ _ _ _ _ _ _ _ _)
   | (with_reducible exact LeO.refl _)
   | (with_reducible exact LeO.none _)
   | (with_reducible refine LeO.ite ?_ ?_)
   | (with_reducible refine LeO.bind ?_ (fun _ => ?_))
   | refine LeO.ite ?_ ?_
   | refine LeO.bind ?_ (fun _ => ?_)
def asm_line.T1 : Bool × List (List Nat × List Nat) := (true, [([], []), ([0], [0]), ([1], [1]), ([], []), ([3], [3]), ([4, 2], [4]), ([], []), ([6], [6]), ([7], [7]), ([8, 5], [8]), ([2, 9, 0, 1, 2], [2]), ([5, 10, 0, 1, 2, 3, 4, 5, 10], [5]), ([9, 11, 0, 1, 2, 3, 4, 5, 6, 7, 8, 9, 10, 11], [9])])
def asm_line.B1 : List Nat := [0, 1, 3, 0, 8, 31, 0, 64, 192, 511, 1023, 2047, 4095]
theorem asm_line.tab1 : rtab .any (opsOf Tryd.f16 1) = asm_line.T1 := by kernel_rfl
theorem asm_line.bits1 : waitsOk asm_line.T1.2 asm_line.B1 = true := by kernel_rfl
def asm_line.T23 : Bool × List (List Nat × List Nat) := (true, [([], []), ([0], [0]), ([1], [1]), ([2], [2]), ([], []), ([3, 4], [3, 4]), ([5], [5]), ([], []), ([6, 7], [6, 7]), ([8], [8]), ([], []), ([9, 10], [9, 10]), ([11], [11]), ([], []), ([13], [13]), ([14], [14]), ([12, 15], [12, 15]), ([16, 15, 0, 1, 2, 3, 4, 5, 6, 7, 8, 9, 10, 11, 12, 13, 14, 15, 16], [16])])
def asm_line.B23 : List Nat := [0, 1, 3, 7, 0, 31, 63, 0, 255, 511, 0, 2047, 4095, 0, 8192, 24576, 65535, 131071]
theorem asm_line.tab23 : rtab .any (opsOf Tryd.f16 23) = asm_line.T23 := by kernel_rfl
theorem asm_line.bits23 : waitsOk asm_line.T23.2 asm_line.B23 = true := by kernel_rfl
set_option maxHeartbeats 8000000 in
set_option maxRecDepth 100000 in
theorem asm_line.calls (k : Nat) (a0_0 : Int) (a0_1 : Int) (a0_2 : Int) (a0_3 : Bool) (a0_4 : Bool) (a1_0 : Int) (a1_1 : Int) (a1_2 : Int) (a1_3 : Int) (a1_4 : Int) (a2 : Int) (r : ByteArray) (w : World) (hrG0 : Kd.C Kd.string w (some ⟨0, 0, none⟩) gl0.length gl0) (hrG1 : Kd.C Kd.string w (some ⟨1, 0, none⟩) gl1.length gl1) (hrG3 : Kd.C kGF w (some ⟨3, 0, none⟩) gl3.length gl3) (h : asm_line.f k a0_0 a0_1 a0_2 a0_3 a0_4 a1_0 a1_1 a1_2 a1_3 a1_4 a2 = some r) :
  Calls Tryd.prog 16 #[.agg #[.int .i64 a0_0, .int .i64 a0_1, .int .i64 a0_2, .bool a0_3, .bool a0_4], .agg #[.int .u8 a1_0, .int .u8 a1_1, .int .u8 a1_2, .int .i16 a1_3, .int .i32 a1_4], .int .i32 a2] w fun e w' => e = .returned (.string r) ∧ Below w.heap.size w w' := by
 have hu49 := Tryd.underlying49
 have hu37 := Tryd.underlying37
 have HRG0 := Aside0.mk hrG0
 clear hrG0
 have HRG1 := Aside0.mk hrG1
 clear hrG1
 have HRG3 := Aside0.mk hrG3
 clear hrG3
 have HB := Aside0.mk (Below.refl w.heap.size w)
 have H : ((asm_reg.f a1_1).bind fun t153 => ((asm_reg.f a1_2).bind fun t154 => ((strconv_Itoa_29.f (wrap64 (a1_4))).bind fun t155 => ((strconv_Itoa_29.f (wrap64 (8 * a0_2))).bind fun t156 => (if a0_3 = true then (asm_line.j0 k a2 t153 t154 t155 t156 (⟨#[54, 52]⟩ : ByteArray) a0_0 a0_1 a0_2 a0_3 a0_4 a1_0 a1_1 a1_2 a1_3 a1_4) else (asm_line.j0 k a2 t153 t154 t155 t156 (⟨#[51, 50]⟩ : ByteArray) a0_0 a0_1 a0_2 a0_3 a0_4 a1_0 a1_1 a1_2 a1_3 a1_4)))))) = some r := h
 clear h
 obtain ⟨t153, A4, H⟩ := bs_ H; try dsimp only at H
 obtain ⟨t154, A5, H⟩ := bs_ H; try dsimp only at H
 obtain ⟨t155, A6, H⟩ := bs_ H; try dsimp only at H
 obtain ⟨t156, A7, H⟩ := bs_ H; try dsimp only at H
 have HC8 := Aside0.mk H
 clear H
 go_enter Tryd.func16, Tryd.ntmps16
 try go_wp2_with (first | ((with_reducible refine gate_dst (N := 3) rfl ?_); refine sh_box 3 #[.int .i64 a0_0, .int .i64 a0_1, .int .i64 a0_2, .bool a0_3, .bool a0_4] 49 ?_; intro gb151 hg w9 hbox hb; have GE151 := sh_z (w := w) hg; replace HB := sh_b (w := w) hb; have BK151 := Aside0.mk (hbox); clear hb hbox hg) | ((with_reducible refine gate_dst (N := 4) rfl ?_); refine sh_box 4 #[.int .u8 a1_0, .int .u8 a1_1, .int .u8 a1_2, .int .i16 a1_3, .int .i32 a1_4] 37 ?_; intro gb152 hg w10 hbox hb; have GE152 := sh_z (w := w) hg; have NB151_152 := sh_n BK151 hg; have NB152_151 := sh_s NB151_152; replace BK151 := sh_k BK151 hb; replace HB := sh_b (w := w) hb; have BK152 := Aside0.mk (hbox); clear hb hbox hg))
 have n0_ := Aside0.mk (blk_drew BK151.out)
 have n1_ := Aside0.mk (blk_drew BK152.out)
 have n2_ := Aside0.mk (below_drew1 HB.out)
 clear BK151
 clear BK152
 clear HB
 have BK151 := n0_
 have BK152 := n1_
 have HB := n2_
 clear n0_ n1_ n2_
 refine start_ (n := 13) (S := fun w' => w'.cell? ⟨gb152, 0, none⟩ = some (.int .u8 a1_0) ∧ w'.cell? ⟨gb152, 1, none⟩ = some (.int .u8 a1_1) ∧ w'.cell? ⟨gb152, 2, none⟩ = some (.int .u8 a1_2) ∧ w'.cell? ⟨gb152, 3, none⟩ = some (.int .i16 a1_3) ∧ w'.cell? ⟨gb152, 4, none⟩ = some (.int .i32 a1_4)) (ds := []) (fl 0 13) (by kernel_rfl) rfl rfl ⟨(blk_cell BK152.out 0).trans rfl, (blk_cell BK152.out 1).trans rfl, (blk_cell BK152.out 2).trans rfl, (blk_cell BK152.out 3).trans rfl, (blk_cell BK152.out 4).trans rfl⟩ (fun hHeld => ?_); refine with_tabW asm_line.tab1 asm_line.bits1 (fun HT_ HW_ => ?_)
 generalize w10.drew = w11 at BK151 BK152 HB hHeld ⊢
 refine pure_ (i := 0) (N := some 13) (v := ?_) (a' := ?_) (fl 1 12) rfl rfl (any_of HT_.out (by kernel_rfl)) (fun _ _ _ h => h) (Or.inl ⟨by rfl, ?_⟩) ?_ ?_
 rotate_left; exact ga_; rotate_left; exact gb_
 refine pure_ (i := 3) (N := some 16) (v := ?_) (a' := ?_) (fm 13 9) rfl rfl (any_of HT_.out (by kernel_rfl)) (fun _ _ _ h => h) (Or.inl ⟨by rfl, ?_⟩) ?_ ?_
 rotate_left; exact ga_; rotate_left; exact gb_
 refine pure_ (i := 6) (N := some 19) (v := ?_) (a' := ?_) (fm 13 73) rfl rfl (any_of HT_.out (by kernel_rfl)) (fun _ _ _ h => h) (Or.inl ⟨by rfl, ?_⟩) ?_ ?_
 rotate_left; exact ga_; rotate_left; exact gb_
 refine take_ (i := 1) (N := some 14) (v := ?_) (a' := ?_) (fm 13 75) rfl rfl (take_ofW HT_.out HW_.out (by kernel_rfl)) (fun _ _ _ h => h) (Or.inl ⟨by rfl, ?_⟩) hHeld ?_ ?_
 rotate_left
 ·rintro w' ⟨s0, s1, s2, s3, s4⟩
  go_simp
  with_reducible rfl
 rotate_left; exact gb_
 refine take_ (i := 4) (N := some 17) (v := ?_) (a' := ?_) (fm 13 91) rfl rfl (take_ofW HT_.out HW_.out (by kernel_rfl)) (fun _ _ _ h => h) (Or.inl ⟨by rfl, ?_⟩) hHeld ?_ ?_
 rotate_left
 ·rintro w' ⟨s0, s1, s2, s3, s4⟩
  go_simp
  with_reducible rfl
 rotate_left; exact gb_
 refine take_ (i := 7) (N := some 20) (v := ?_) (a' := ?_) (fm 13 219) rfl rfl (take_ofW HT_.out HW_.out (by kernel_rfl)) (fun _ _ _ h => h) (Or.inl ⟨by rfl, ?_⟩) hHeld ?_ ?_
 rotate_left
 ·rintro w' ⟨s0, s1, s2, s3, s4⟩
  go_simp
  with_reducible rfl
 rotate_left; exact gb_
 refine pure_ (i := 8) (N := some 21) (v := ?_) (a' := ?_) (fm 13 475) rfl rfl (any_of HT_.out (by kernel_rfl)) (fun _ _ _ h => h) (Or.inl ⟨by rfl, ?_⟩) ?_ ?_
 rotate_left; exact ga_; rotate_left; exact gb_
 refine one_ (i := 2) (N := some 15) (fm 13 479) rfl rfl (one_of HT_.out (by kernel_rfl)) (by decide) (fun K hK => ?_)
 refine goes_ Tryd.func28 (by kernel_rfl) rfl #[.int .u8 a1_1] (by rfl) rfl rfl (by (try simp only [List.map_toArray, List.map_cons, List.map_nil]); first | done | rfl | (simp only [List.length_drop, List.length_take]; rfl)) ?_
 with_reducible refine (asm_reg.calls a1_1 t153 _ ?side1 A4.out).mono ?_
 (case side1 => repeat (first | exact (Kd.C_below HRG3.out HB.out) | (with_reducible refine Kd.C_alloc ?_ _) | (with_reducible refine Kd.C_drewN ?_ _) | (with_reducible refine Kd.C_drew ?_)))
 rintro e w12 ⟨rfl, hb⟩
 refine ⟨_, rfl, ?_⟩
 have n0_ := Aside0.mk (blk_below (g := gb151) (o := .cells #[.int .i64 a0_0, .int .i64 a0_1, .int .i64 a0_2, .bool a0_3, .bool a0_4] 49 (0, 0)) bk_now hb)
 have n1_ := Aside0.mk (blk_below (g := gb152) (o := .cells #[.int .u8 a1_0, .int .u8 a1_1, .int .u8 a1_2, .int .i16 a1_3, .int .i32 a1_4] 37 (0, 0)) bk_now hb)
 have n2_ := Aside0.mk (below_step b_now hb)
 clear BK151
 clear BK152
 clear HB
 have BK151 := n0_
 have BK152 := n1_
 have HB := n2_
 clear n0_ n1_ n2_
 (try clear hb)
 (try clear hb2)
 (try clear hk)
 (try clear hi)
 refine hK.out _ _ ⟨(blk_cell BK152.out 0).trans rfl, (blk_cell BK152.out 1).trans rfl, (blk_cell BK152.out 2).trans rfl, (blk_cell BK152.out 3).trans rfl, (blk_cell BK152.out 4).trans rfl⟩ (fun hHeld => ?_)
 clear hK K
 refine norm_ (a' := ?_) ?_ ?_
 rotate_left
 ·show Act.put _ (some 15) _ = _
  simp only [Act.put, List.setIfInBounds_toArray, List.set_cons_zero, List.set_cons_succ, i64_w, i32_w]
  rfl
 refine one_ (i := 5) (N := some 18) (fl 9 4) rfl rfl (one_of HT_.out (by kernel_rfl)) (by decide) (fun K hK => ?_)
 refine goes_ Tryd.func28 (by kernel_rfl) rfl #[.int .u8 a1_2] (by rfl) rfl rfl (by (try simp only [List.map_toArray, List.map_cons, List.map_nil]); first | done | rfl | (simp only [List.length_drop, List.length_take]; rfl)) ?_
 with_reducible refine (asm_reg.calls a1_2 t154 _ ?side1 A5.out).mono ?_
 (case side1 => repeat (first | exact (Kd.C_below HRG3.out HB.out) | (with_reducible refine Kd.C_alloc ?_ _) | (with_reducible refine Kd.C_drewN ?_ _) | (with_reducible refine Kd.C_drew ?_)))
 rintro e w13 ⟨rfl, hb⟩
 refine ⟨_, rfl, ?_⟩
 have n0_ := Aside0.mk (blk_below (g := gb151) (o := .cells #[.int .i64 a0_0, .int .i64 a0_1, .int .i64 a0_2, .bool a0_3, .bool a0_4] 49 (0, 0)) bk_now hb)
 have n1_ := Aside0.mk (blk_below (g := gb152) (o := .cells #[.int .u8 a1_0, .int .u8 a1_1, .int .u8 a1_2, .int .i16 a1_3, .int .i32 a1_4] 37 (0, 0)) bk_now hb)
 have n2_ := Aside0.mk (below_step b_now hb)
 clear BK151
 clear BK152
 clear HB
 have BK151 := n0_
 have BK152 := n1_
 have HB := n2_
 clear n0_ n1_ n2_
 (try clear hb)
 (try clear hb2)
 (try clear hk)
 (try clear hi)
 refine hK.out _ _ ⟨(blk_cell BK152.out 0).trans rfl, (blk_cell BK152.out 1).trans rfl, (blk_cell BK152.out 2).trans rfl, (blk_cell BK152.out 3).trans rfl, (blk_cell BK152.out 4).trans rfl⟩ (fun hHeld => ?_)
 clear hK K
 refine norm_ (a' := ?_) ?_ ?_
 rotate_left
 ·show Act.put _ (some 18) _ = _
  simp only [Act.put, List.setIfInBounds_toArray, List.set_cons_zero, List.set_cons_succ, i64_w, i32_w]
  rfl
 refine one_ (i := 9) (N := some 22) (fl 10 3) rfl rfl (one_of HT_.out (by kernel_rfl)) (by decide) (fun K hK => ?_)
 refine goes_ Tryd.func29 (by kernel_rfl) rfl #[.int .i64 (wrap64 (a1_4))] (by rfl) rfl rfl (by (try simp only [List.map_toArray, List.map_cons, List.map_nil]); first | done | rfl | (simp only [List.length_drop, List.length_take]; rfl)) ?_
 with_reducible refine (strconv_Itoa_29.calls (wrap64 (a1_4)) t155 _ ?side1 A6.out).mono ?_
 (case side1 => repeat (first | exact (Kd.C_below HRG3.out HB.out) | (with_reducible refine Kd.C_alloc ?_ _) | (with_reducible refine Kd.C_drewN ?_ _) | (with_reducible refine Kd.C_drew ?_)))
 rintro e w14 ⟨rfl, hb⟩
 refine ⟨_, rfl, ?_⟩
 have n0_ := Aside0.mk (blk_below (g := gb151) (o := .cells #[.int .i64 a0_0, .int .i64 a0_1, .int .i64 a0_2, .bool a0_3, .bool a0_4] 49 (0, 0)) bk_now hb)
 have n1_ := Aside0.mk (blk_below (g := gb152) (o := .cells #[.int .u8 a1_0, .int .u8 a1_1, .int .u8 a1_2, .int .i16 a1_3, .int .i32 a1_4] 37 (0, 0)) bk_now hb)
 have n2_ := Aside0.mk (below_step b_now hb)
 clear BK151
 clear BK152
 clear HB
 have BK151 := n0_
 have BK152 := n1_
 have HB := n2_
 clear n0_ n1_ n2_
 (try clear hb)
 (try clear hb2)
 (try clear hk)
 (try clear hi)
 refine hK.out _ _ ⟨(blk_cell BK152.out 0).trans rfl, (blk_cell BK152.out 1).trans rfl, (blk_cell BK152.out 2).trans rfl, (blk_cell BK152.out 3).trans rfl, (blk_cell BK152.out 4).trans rfl⟩ (fun hHeld => ?_)
 clear hK K
 refine norm_ (a' := ?_) ?_ ?_
 rotate_left
 ·show Act.put _ (some 22) _ = _
  simp only [Act.put, List.setIfInBounds_toArray, List.set_cons_zero, List.set_cons_succ, i64_w, i32_w]
  rfl
 refine pure_ (i := 10) (N := some 7) (v := ?_) (a' := ?_) (fl 11 2) rfl rfl (any_of HT_.out (by kernel_rfl)) (fun _ _ _ h => h) (Or.inl ⟨by rfl, ?_⟩) ?_ ?_
 rotate_left; exact ga_; rotate_left; exact gb_
 refine pure_ (i := 11) (N := some 8) (v := ?_) (a' := ?_) (fl 12 1) rfl rfl (any_of HT_.out (by kernel_rfl)) (fun _ _ _ h => h) (Or.inl ⟨by rfl, ?_⟩) ?_ ?_
 rotate_left; exact ga_; rotate_left; exact gb_
 refine pure_ (i := 12) (N := some 9) (v := ?_) (a' := ?_) (fl 13 0) rfl rfl (any_of HT_.out (by kernel_rfl)) (fun _ _ _ h => h) (Or.inl ⟨by rfl, ?_⟩) ?_ ?_
 rotate_left; exact ga_; rotate_left; exact gb_
 refine done_ (done_of HT_.out (by kernel_rfl)) ?_
 obtain ⟨hnb15, hnc15⟩ := nb_ NB151_152
 have hcz16 := blk_all5 BK151.out
 go_upto_if 28 with (first | ((with_reducible refine gate_callee (f := 29) rfl ?_); refine sh_call (some 26) Tryd.func29 #[.int .i64 (wrap64 (8 * a0_2))] ?_; (with_reducible refine (strconv_Itoa_29.calls (wrap64 (8 * a0_2)) t156 _ ?side1 A7.out).mono ?_); (case side1 => repeat (first | exact (Kd.C_below HRG3.out HB.out) | (with_reducible refine Kd.C_alloc ?_ _) | (with_reducible refine Kd.C_drewN ?_ _) | (with_reducible refine Kd.C_drew ?_))); rintro e w17 ⟨rfl, hb⟩; refine ⟨_, rfl, ?_⟩; replace BK151 := sh_k BK151 hb; replace BK152 := sh_k BK152 hb; replace HB := sh_b (w := w) hb; (try clear hb); (try clear hb2); (try clear hk); (try clear hi); have hcz18 := blk_all5 BK151.out))
 (try simp only [Act.put, List.setIfInBounds_toArray, List.set_cons_zero, List.set_cons_succ])
 go_cut [11] (fun v11 wc => ∃ (kq : Nat) (x11_7 : ByteArray), v11 = .string x11_7 ∧ Aside0 (asm_line.j0 kq a2 t153 t154 t155 t156 x11_7 a0_0 a0_1 a0_2 a0_3 a0_4 a1_0 a1_1 a1_2 a1_3 a1_4 = some r) ∧ Aside0 (kq ≤ k) ∧ Aside0 (wc.heap[gb151]? = some (.cells #[.int .i64 a0_0, .int .i64 a0_1, .int .i64 a0_2, .bool a0_3, .bool a0_4] 49 (0, 0))) ∧ Aside0 (wc.heap[gb152]? = some (.cells #[.int .u8 a1_0, .int .u8 a1_1, .int .u8 a1_2, .int .i16 a1_3, .int .i32 a1_4] 37 (0, 0))) ∧ Aside0 (Below w.heap.size w wc))
 case first =>
  have H := HC8.out
  clear HC8
  by_cases c19 : a0_3 = true
  ·subst c19
   replace H := sh_t H
   have H' := Aside0.mk H
   clear H
   go_wp2
   go_meet
   case rel => exact ⟨_, ((⟨#[54, 52]⟩ : ByteArray)), eq_now, H', ⟨by first | omega | exact Nat.le_refl _⟩, ⟨bk_now⟩, ⟨bk_now⟩, ⟨b_now⟩⟩
  ·replace c19 := Bool.eq_false_iff.mpr c19
   subst c19
   replace H := sh_f H
   have H' := Aside0.mk H
   clear H
   go_wp2
   go_meet
   case rel => exact ⟨_, ((⟨#[51, 50]⟩ : ByteArray)), eq_now, H', ⟨by first | omega | exact Nat.le_refl _⟩, ⟨bk_now⟩, ⟨bk_now⟩, ⟨b_now⟩⟩
 case rest =>
  clear HC8
  clear hcz16 hcz18
  obtain ⟨kq, x11_7, rfl, HA, HJ7, BK151, BK152, HB⟩ := hcut
  cases kq with
  | zero => exact absurd HA.out (by simp [asm_line.j0])
  | succ kj7 =>
   have H := HA.out
   clear HA
   simp only [asm_line.j0] at H
   have HC20 := Aside0.mk H
   clear H
   obtain ⟨hnb21, hnc21⟩ := nb_ NB151_152
   have hcz22 := blk_all5 BK151.out
   go_upto_if 31 with (fail)
   go_cut [12] (fun v12 wc => ∃ (kq : Nat) (x12_19 : ByteArray), v12 = .string x12_19 ∧ Aside0 (asm_line.j1 kq a2 t153 t154 t155 t156 x11_7 x12_19 a0_0 a0_1 a0_2 a0_3 a0_4 a1_0 a1_1 a1_2 a1_3 a1_4 = some r) ∧ Aside0 (kq ≤ kj7) ∧ Aside0 (wc.heap[gb151]? = some (.cells #[.int .i64 a0_0, .int .i64 a0_1, .int .i64 a0_2, .bool a0_3, .bool a0_4] 49 (0, 0))) ∧ Aside0 (wc.heap[gb152]? = some (.cells #[.int .u8 a1_0, .int .u8 a1_1, .int .u8 a1_2, .int .i16 a1_3, .int .i32 a1_4] 37 (0, 0))) ∧ Aside0 (Below w.heap.size w wc))
   case first =>
    have H := HC20.out
    clear HC20
    by_cases c23 : a0_4 = true
    ·subst c23
     replace H := sh_t H
     have H' := Aside0.mk H
     clear H
     go_wp2
     go_meet
     case rel => exact ⟨_, (t154), eq_now, H', ⟨by have := HJ7.out; first | omega | exact Nat.le_refl _⟩, ⟨bk_now⟩, ⟨bk_now⟩, ⟨b_now⟩⟩
    ·replace c23 := Bool.eq_false_iff.mpr c23
     subst c23
     replace H := sh_f H
     have H' := Aside0.mk H
     clear H
     go_wp2
     go_meet
     case rel => exact ⟨_, (t155), eq_now, H', ⟨by have := HJ7.out; first | omega | exact Nat.le_refl _⟩, ⟨bk_now⟩, ⟨bk_now⟩, ⟨b_now⟩⟩
   case rest =>
    clear HC20
    clear hcz22
    obtain ⟨kq, x12_19, rfl, HA, HJ19, BK151, BK152, HB⟩ := hcut
    cases kq with
    | zero => exact absurd HA.out (by simp [asm_line.j1])
    | succ kj19 =>
     have H := HA.out
     clear HA
     simp only [asm_line.j1] at H
     by_cases c24 : a0_0 = 1
     ·rw [if_pos c24] at H
      obtain ⟨c24b0, c24b1⟩ := eqT c24
      clear c24
      by_cases c25 : a0_1 = 8
      ·rw [if_pos c25] at H
       obtain ⟨c25b0, c25b1⟩ := eqT c25
       clear c25
       by_cases c26 : 3 + x11_7.size ≤ 9223372036854775807
       ·rw [if_pos c26] at H
        have c26b0 := eq_true c26
        have c26b1 : decide (3 + x11_7.size ≤ 9223372036854775807) = true := decide_eq_true c26
        try have c26b2 : (9223372036854775807 < 3 + x11_7.size) = False := eq_false (Nat.not_lt.2 c26)
        by_cases c27 : ((⟨#[110, 101, 103]⟩ : ByteArray) ++ x11_7).size + 1 ≤ 9223372036854775807
        ·rw [if_pos c27] at H
         have c27b0 := eq_true c27
         have c27_y0 : ((9223372036854775807 < 3 + x11_7.size + 1) : Prop) = False := eq_false (by have h_ := c27; simp only [ByteArray.size_append] at h_; exact Nat.not_lt.2 h_)
         have c27_z0 : ((3 + x11_7.size + 1 ≤ 9223372036854775807) : Prop) = True := eq_true (by have h_ := c27; simp only [ByteArray.size_append] at h_; exact h_)
         have c27b1 : decide (((⟨#[110, 101, 103]⟩ : ByteArray) ++ x11_7).size + 1 ≤ 9223372036854775807) = true := decide_eq_true c27
         try have c27b2 : (9223372036854775807 < ((⟨#[110, 101, 103]⟩ : ByteArray) ++ x11_7).size + 1) = False := eq_false (Nat.not_lt.2 c27)
         by_cases c28 : (((⟨#[110, 101, 103]⟩ : ByteArray) ++ x11_7) ++ (⟨#[32]⟩ : ByteArray)).size + t153.size ≤ 9223372036854775807
         ·rw [if_pos c28] at H
          have c28b0 := eq_true c28
          have c28_y0 : ((9223372036854775807 < 3 + x11_7.size + 1 + t153.size) : Prop) = False := eq_false (by have h_ := c28; simp only [ByteArray.size_append] at h_; exact Nat.not_lt.2 h_)
          have c28_z0 : ((3 + x11_7.size + 1 + t153.size ≤ 9223372036854775807) : Prop) = True := eq_true (by have h_ := c28; simp only [ByteArray.size_append] at h_; exact h_)
          have c28b1 : decide ((((⟨#[110, 101, 103]⟩ : ByteArray) ++ x11_7) ++ (⟨#[32]⟩ : ByteArray)).size + t153.size ≤ 9223372036854775807) = true := decide_eq_true c28
          try have c28b2 : (9223372036854775807 < (((⟨#[110, 101, 103]⟩ : ByteArray) ++ x11_7) ++ (⟨#[32]⟩ : ByteArray)).size + t153.size) = False := eq_false (Nat.not_lt.2 c28)
          obtain rfl := Option.some.inj H
          obtain ⟨hnb29, hnc29⟩ := nb_ NB151_152
          have hcz30 := blk_all5 BK151.out
          go_wp2
          go_ret
          exact ⟨ret_now, b_now⟩
         ·rw [if_neg c28] at H
          exact absurd H (by simp)
        ·rw [if_neg c27] at H
         exact absurd H (by simp)
       ·rw [if_neg c26] at H
        exact absurd H (by simp)
      ·rw [if_neg c25] at H
       obtain ⟨c25b0, c25b1⟩ := eqF c25
       by_cases c31 : 0 ≤ a0_1
       ·rw [if_pos c31] at H
        have c31b0 : decide (0 ≤ a0_1) = true := decide_eq_true c31
        clear c31
        by_cases c32 : a0_1 < 13
        ·rw [if_pos c32] at H
         have c32b0 : decide (a0_1 < 13) = true := decide_eq_true c32
         clear c32
         by_cases c33 : (rdOf ByteArray.empty gl0 a0_1).size + x11_7.size ≤ 9223372036854775807
         ·rw [if_pos c33] at H
          have c33b0 := eq_true c33
          have c33b1 : decide ((rdOf ByteArray.empty gl0 a0_1).size + x11_7.size ≤ 9223372036854775807) = true := decide_eq_true c33
          try have c33b2 : (9223372036854775807 < (rdOf ByteArray.empty gl0 a0_1).size + x11_7.size) = False := eq_false (Nat.not_lt.2 c33)
          by_cases c34 : ((rdOf ByteArray.empty gl0 a0_1) ++ x11_7).size + 1 ≤ 9223372036854775807
          ·rw [if_pos c34] at H
           have c34b0 := eq_true c34
           have c34_y0 : ((9223372036854775807 < (rdOf ByteArray.empty gl0 a0_1).size + x11_7.size + 1) : Prop) = False := eq_false (by have h_ := c34; simp only [ByteArray.size_append] at h_; exact Nat.not_lt.2 h_)
           have c34_z0 : (((rdOf ByteArray.empty gl0 a0_1).size + x11_7.size + 1 ≤ 9223372036854775807) : Prop) = True := eq_true (by have h_ := c34; simp only [ByteArray.size_append] at h_; exact h_)
           have c34b1 : decide (((rdOf ByteArray.empty gl0 a0_1) ++ x11_7).size + 1 ≤ 9223372036854775807) = true := decide_eq_true c34
           try have c34b2 : (9223372036854775807 < ((rdOf ByteArray.empty gl0 a0_1) ++ x11_7).size + 1) = False := eq_false (Nat.not_lt.2 c34)
           by_cases c35 : (((rdOf ByteArray.empty gl0 a0_1) ++ x11_7) ++ (⟨#[32]⟩ : ByteArray)).size + t153.size ≤ 9223372036854775807
           ·rw [if_pos c35] at H
            have c35b0 := eq_true c35
            have c35_y0 : ((9223372036854775807 < (rdOf ByteArray.empty gl0 a0_1).size + x11_7.size + 1 + t153.size) : Prop) = False := eq_false (by have h_ := c35; simp only [ByteArray.size_append] at h_; exact Nat.not_lt.2 h_)
            have c35_z0 : (((rdOf ByteArray.empty gl0 a0_1).size + x11_7.size + 1 + t153.size ≤ 9223372036854775807) : Prop) = True := eq_true (by have h_ := c35; simp only [ByteArray.size_append] at h_; exact h_)
            have c35b1 : decide ((((rdOf ByteArray.empty gl0 a0_1) ++ x11_7) ++ (⟨#[32]⟩ : ByteArray)).size + t153.size ≤ 9223372036854775807) = true := decide_eq_true c35
            try have c35b2 : (9223372036854775807 < (((rdOf ByteArray.empty gl0 a0_1) ++ x11_7) ++ (⟨#[32]⟩ : ByteArray)).size + t153.size) = False := eq_false (Nat.not_lt.2 c35)
            by_cases c36 : ((((rdOf ByteArray.empty gl0 a0_1) ++ x11_7) ++ (⟨#[32]⟩ : ByteArray)) ++ t153).size + 2 ≤ 9223372036854775807
            ·rw [if_pos c36] at H
             have c36b0 := eq_true c36
             have c36_y0 : ((9223372036854775807 < (rdOf ByteArray.empty gl0 a0_1).size + x11_7.size + 1 + t153.size + 2) : Prop) = False := eq_false (by have h_ := c36; simp only [ByteArray.size_append] at h_; exact Nat.not_lt.2 h_)
             have c36_z0 : (((rdOf ByteArray.empty gl0 a0_1).size + x11_7.size + 1 + t153.size + 2 ≤ 9223372036854775807) : Prop) = True := eq_true (by have h_ := c36; simp only [ByteArray.size_append] at h_; exact h_)
             have c36b1 : decide (((((rdOf ByteArray.empty gl0 a0_1) ++ x11_7) ++ (⟨#[32]⟩ : ByteArray)) ++ t153).size + 2 ≤ 9223372036854775807) = true := decide_eq_true c36
             try have c36b2 : (9223372036854775807 < ((((rdOf ByteArray.empty gl0 a0_1) ++ x11_7) ++ (⟨#[32]⟩ : ByteArray)) ++ t153).size + 2) = False := eq_false (Nat.not_lt.2 c36)
             by_cases c37 : (((((rdOf ByteArray.empty gl0 a0_1) ++ x11_7) ++ (⟨#[32]⟩ : ByteArray)) ++ t153) ++ (⟨#[44, 32]⟩ : ByteArray)).size + x12_19.size ≤ 9223372036854775807
             ·rw [if_pos c37] at H
              have c37b0 := eq_true c37
              have c37_y0 : ((9223372036854775807 < (rdOf ByteArray.empty gl0 a0_1).size + x11_7.size + 1 + t153.size + 2 + x12_19.size) : Prop) = False := eq_false (by have h_ := c37; simp only [ByteArray.size_append] at h_; exact Nat.not_lt.2 h_)
              have c37_z0 : (((rdOf ByteArray.empty gl0 a0_1).size + x11_7.size + 1 + t153.size + 2 + x12_19.size ≤ 9223372036854775807) : Prop) = True := eq_true (by have h_ := c37; simp only [ByteArray.size_append] at h_; exact h_)
              have c37b1 : decide ((((((rdOf ByteArray.empty gl0 a0_1) ++ x11_7) ++ (⟨#[32]⟩ : ByteArray)) ++ t153) ++ (⟨#[44, 32]⟩ : ByteArray)).size + x12_19.size ≤ 9223372036854775807) = true := decide_eq_true c37
              try have c37b2 : (9223372036854775807 < (((((rdOf ByteArray.empty gl0 a0_1) ++ x11_7) ++ (⟨#[32]⟩ : ByteArray)) ++ t153) ++ (⟨#[44, 32]⟩ : ByteArray)).size + x12_19.size) = False := eq_false (Nat.not_lt.2 c37)
              obtain rfl := Option.some.inj H
              obtain ⟨hnb38, hnc38⟩ := nb_ NB151_152
              have hcz39 := blk_all5 BK151.out
              have p157 : 0 ≤ (a0_1 : Int) := od_
              have q157 : a0_1 < (gl0.length : Int) := od_
              have ql157 : ((a0_1 : Int) < (13 : Int)) = True := eq_true (od_)
              obtain ⟨ad157, e157, hx157_0⟩ := Kd.at_string HRG0.out a0_1 p157 q157
              obtain rfl : (⟨0, 0, none⟩ : Addr) = ad157 := (by injection e157)
              (first | simp only [add_plain] at hx157_0 | simp only [add_at] at hx157_0 | simp only [Addr.add, Nat.zero_add] at hx157_0 | skip)
              replace hx157_0 := (HB.out.cell (World.block_lt_of_cell? w _ hx157_0)).trans hx157_0
              replace p157 := eq_true p157
              replace q157 := eq_true q157
              go_wp2
              go_ret
              exact ⟨ret_now, b_now⟩
             ·rw [if_neg c37] at H
              exact absurd H (by simp)
            ·rw [if_neg c36] at H
             exact absurd H (by simp)
           ·rw [if_neg c35] at H
            exact absurd H (by simp)
          ·rw [if_neg c34] at H
           exact absurd H (by simp)
         ·rw [if_neg c33] at H
          exact absurd H (by simp)
        ·rw [if_neg c32] at H
         exact absurd H (by simp)
       ·rw [if_neg c31] at H
        exact absurd H (by simp)
     ·rw [if_neg c24] at H
      obtain ⟨c24b0, c24b1⟩ := eqF c24
      by_cases c40 : a0_0 = 2
      ·rw [if_pos c40] at H
       obtain ⟨c40b0, c40b1⟩ := eqT c40
       clear c40
       by_cases c41 : 4 + t156.size ≤ 9223372036854775807
       ·rw [if_pos c41] at H
        have c41b0 := eq_true c41
        have c41b1 : decide (4 + t156.size ≤ 9223372036854775807) = true := decide_eq_true c41
        try have c41b2 : (9223372036854775807 < 4 + t156.size) = False := eq_false (Nat.not_lt.2 c41)
        by_cases c42 : ((⟨#[115, 119, 97, 112]⟩ : ByteArray) ++ t156).size + 1 ≤ 9223372036854775807
        ·rw [if_pos c42] at H
         have c42b0 := eq_true c42
         have c42_y0 : ((9223372036854775807 < 4 + t156.size + 1) : Prop) = False := eq_false (by have h_ := c42; simp only [ByteArray.size_append] at h_; exact Nat.not_lt.2 h_)
         have c42_z0 : ((4 + t156.size + 1 ≤ 9223372036854775807) : Prop) = True := eq_true (by have h_ := c42; simp only [ByteArray.size_append] at h_; exact h_)
         have c42b1 : decide (((⟨#[115, 119, 97, 112]⟩ : ByteArray) ++ t156).size + 1 ≤ 9223372036854775807) = true := decide_eq_true c42
         try have c42b2 : (9223372036854775807 < ((⟨#[115, 119, 97, 112]⟩ : ByteArray) ++ t156).size + 1) = False := eq_false (Nat.not_lt.2 c42)
         by_cases c43 : (((⟨#[115, 119, 97, 112]⟩ : ByteArray) ++ t156) ++ (⟨#[32]⟩ : ByteArray)).size + t153.size ≤ 9223372036854775807
         ·rw [if_pos c43] at H
          have c43b0 := eq_true c43
          have c43_y0 : ((9223372036854775807 < 4 + t156.size + 1 + t153.size) : Prop) = False := eq_false (by have h_ := c43; simp only [ByteArray.size_append] at h_; exact Nat.not_lt.2 h_)
          have c43_z0 : ((4 + t156.size + 1 + t153.size ≤ 9223372036854775807) : Prop) = True := eq_true (by have h_ := c43; simp only [ByteArray.size_append] at h_; exact h_)
          have c43b1 : decide ((((⟨#[115, 119, 97, 112]⟩ : ByteArray) ++ t156) ++ (⟨#[32]⟩ : ByteArray)).size + t153.size ≤ 9223372036854775807) = true := decide_eq_true c43
          try have c43b2 : (9223372036854775807 < (((⟨#[115, 119, 97, 112]⟩ : ByteArray) ++ t156) ++ (⟨#[32]⟩ : ByteArray)).size + t153.size) = False := eq_false (Nat.not_lt.2 c43)
          obtain rfl := Option.some.inj H
          obtain ⟨hnb44, hnc44⟩ := nb_ NB151_152
          have hcz45 := blk_all5 BK151.out
          go_wp2
          go_ret
          exact ⟨ret_now, b_now⟩
         ·rw [if_neg c43] at H
          exact absurd H (by simp)
        ·rw [if_neg c42] at H
         exact absurd H (by simp)
       ·rw [if_neg c41] at H
        exact absurd H (by simp)
      ·rw [if_neg c40] at H
       obtain ⟨c40b0, c40b1⟩ := eqF c40
       by_cases c46 : a0_0 = 3
       ·rw [if_pos c46] at H
        obtain ⟨c46b0, c46b1⟩ := eqT c46
        clear c46
        by_cases c47 : 4 + t156.size ≤ 9223372036854775807
        ·rw [if_pos c47] at H
         have c47b0 := eq_true c47
         have c47b1 : decide (4 + t156.size ≤ 9223372036854775807) = true := decide_eq_true c47
         try have c47b2 : (9223372036854775807 < 4 + t156.size) = False := eq_false (Nat.not_lt.2 c47)
         by_cases c48 : ((⟨#[108, 111, 97, 100]⟩ : ByteArray) ++ t156).size + 1 ≤ 9223372036854775807
         ·rw [if_pos c48] at H
          have c48b0 := eq_true c48
          have c48_y0 : ((9223372036854775807 < 4 + t156.size + 1) : Prop) = False := eq_false (by have h_ := c48; simp only [ByteArray.size_append] at h_; exact Nat.not_lt.2 h_)
          have c48_z0 : ((4 + t156.size + 1 ≤ 9223372036854775807) : Prop) = True := eq_true (by have h_ := c48; simp only [ByteArray.size_append] at h_; exact h_)
          have c48b1 : decide (((⟨#[108, 111, 97, 100]⟩ : ByteArray) ++ t156).size + 1 ≤ 9223372036854775807) = true := decide_eq_true c48
          try have c48b2 : (9223372036854775807 < ((⟨#[108, 111, 97, 100]⟩ : ByteArray) ++ t156).size + 1) = False := eq_false (Nat.not_lt.2 c48)
          by_cases c49 : (((⟨#[108, 111, 97, 100]⟩ : ByteArray) ++ t156) ++ (⟨#[32]⟩ : ByteArray)).size + t153.size ≤ 9223372036854775807
          ·rw [if_pos c49] at H
           have c49b0 := eq_true c49
           have c49_y0 : ((9223372036854775807 < 4 + t156.size + 1 + t153.size) : Prop) = False := eq_false (by have h_ := c49; simp only [ByteArray.size_append] at h_; exact Nat.not_lt.2 h_)
           have c49_z0 : ((4 + t156.size + 1 + t153.size ≤ 9223372036854775807) : Prop) = True := eq_true (by have h_ := c49; simp only [ByteArray.size_append] at h_; exact h_)
           have c49b1 : decide ((((⟨#[108, 111, 97, 100]⟩ : ByteArray) ++ t156) ++ (⟨#[32]⟩ : ByteArray)).size + t153.size ≤ 9223372036854775807) = true := decide_eq_true c49
           try have c49b2 : (9223372036854775807 < (((⟨#[108, 111, 97, 100]⟩ : ByteArray) ++ t156) ++ (⟨#[32]⟩ : ByteArray)).size + t153.size) = False := eq_false (Nat.not_lt.2 c49)
           by_cases c50 : ((((⟨#[108, 111, 97, 100]⟩ : ByteArray) ++ t156) ++ (⟨#[32]⟩ : ByteArray)) ++ t153).size + 2 ≤ 9223372036854775807
           ·rw [if_pos c50] at H
            have c50b0 := eq_true c50
            have c50_y0 : ((9223372036854775807 < 4 + t156.size + 1 + t153.size + 2) : Prop) = False := eq_false (by have h_ := c50; simp only [ByteArray.size_append] at h_; exact Nat.not_lt.2 h_)
            have c50_z0 : ((4 + t156.size + 1 + t153.size + 2 ≤ 9223372036854775807) : Prop) = True := eq_true (by have h_ := c50; simp only [ByteArray.size_append] at h_; exact h_)
            have c50b1 : decide (((((⟨#[108, 111, 97, 100]⟩ : ByteArray) ++ t156) ++ (⟨#[32]⟩ : ByteArray)) ++ t153).size + 2 ≤ 9223372036854775807) = true := decide_eq_true c50
            try have c50b2 : (9223372036854775807 < ((((⟨#[108, 111, 97, 100]⟩ : ByteArray) ++ t156) ++ (⟨#[32]⟩ : ByteArray)) ++ t153).size + 2) = False := eq_false (Nat.not_lt.2 c50)
            by_cases c51 : (((((⟨#[108, 111, 97, 100]⟩ : ByteArray) ++ t156) ++ (⟨#[32]⟩ : ByteArray)) ++ t153) ++ (⟨#[44, 32]⟩ : ByteArray)).size + t154.size ≤ 9223372036854775807
            ·rw [if_pos c51] at H
             have c51b0 := eq_true c51
             have c51_y0 : ((9223372036854775807 < 4 + t156.size + 1 + t153.size + 2 + t154.size) : Prop) = False := eq_false (by have h_ := c51; simp only [ByteArray.size_append] at h_; exact Nat.not_lt.2 h_)
             have c51_z0 : ((4 + t156.size + 1 + t153.size + 2 + t154.size ≤ 9223372036854775807) : Prop) = True := eq_true (by have h_ := c51; simp only [ByteArray.size_append] at h_; exact h_)
             have c51b1 : decide ((((((⟨#[108, 111, 97, 100]⟩ : ByteArray) ++ t156) ++ (⟨#[32]⟩ : ByteArray)) ++ t153) ++ (⟨#[44, 32]⟩ : ByteArray)).size + t154.size ≤ 9223372036854775807) = true := decide_eq_true c51
             try have c51b2 : (9223372036854775807 < (((((⟨#[108, 111, 97, 100]⟩ : ByteArray) ++ t156) ++ (⟨#[32]⟩ : ByteArray)) ++ t153) ++ (⟨#[44, 32]⟩ : ByteArray)).size + t154.size) = False := eq_false (Nat.not_lt.2 c51)
             obtain ⟨t158, A52, H⟩ := bs_ H; try dsimp only at H
             by_cases c53 : ((((((⟨#[108, 111, 97, 100]⟩ : ByteArray) ++ t156) ++ (⟨#[32]⟩ : ByteArray)) ++ t153) ++ (⟨#[44, 32]⟩ : ByteArray)) ++ t154).size + t158.size ≤ 9223372036854775807
             ·rw [if_pos c53] at H
              have c53b0 := eq_true c53
              have c53_y0 : ((9223372036854775807 < 4 + t156.size + 1 + t153.size + 2 + t154.size + t158.size) : Prop) = False := eq_false (by have h_ := c53; simp only [ByteArray.size_append] at h_; exact Nat.not_lt.2 h_)
              have c53_z0 : ((4 + t156.size + 1 + t153.size + 2 + t154.size + t158.size ≤ 9223372036854775807) : Prop) = True := eq_true (by have h_ := c53; simp only [ByteArray.size_append] at h_; exact h_)
              have c53b1 : decide (((((((⟨#[108, 111, 97, 100]⟩ : ByteArray) ++ t156) ++ (⟨#[32]⟩ : ByteArray)) ++ t153) ++ (⟨#[44, 32]⟩ : ByteArray)) ++ t154).size + t158.size ≤ 9223372036854775807) = true := decide_eq_true c53
              try have c53b2 : (9223372036854775807 < ((((((⟨#[108, 111, 97, 100]⟩ : ByteArray) ++ t156) ++ (⟨#[32]⟩ : ByteArray)) ++ t153) ++ (⟨#[44, 32]⟩ : ByteArray)) ++ t154).size + t158.size) = False := eq_false (Nat.not_lt.2 c53)
              obtain rfl := Option.some.inj H
              obtain ⟨hnb54, hnc54⟩ := nb_ NB151_152
              have hcz55 := blk_all5 BK151.out
              have hcz56 := blk_all5 BK152.out
              go_wp2_with (first | ((with_reducible refine gate_callee (f := 30) rfl ?_); refine sh_call (some 76) Tryd.func30 #[.int .i16 a1_3] ?_; (with_reducible refine (asm_offset.calls a1_3 t158 _ ?side1 A52.out).mono ?_); (case side1 => repeat (first | exact (Kd.C_below HRG3.out HB.out) | (with_reducible refine Kd.C_alloc ?_ _) | (with_reducible refine Kd.C_drewN ?_ _) | (with_reducible refine Kd.C_drew ?_))); rintro e w57 ⟨rfl, hb⟩; refine ⟨_, rfl, ?_⟩; replace BK151 := sh_k BK151 hb; replace BK152 := sh_k BK152 hb; replace HB := sh_b (w := w) hb; (try clear hb); (try clear hb2); (try clear hk); (try clear hi)))
              go_ret
              exact ⟨ret_now, b_now⟩
             ·rw [if_neg c53] at H
              exact absurd H (by simp)
            ·rw [if_neg c51] at H
             exact absurd H (by simp)
           ·rw [if_neg c50] at H
            exact absurd H (by simp)
          ·rw [if_neg c49] at H
           exact absurd H (by simp)
         ·rw [if_neg c48] at H
          exact absurd H (by simp)
        ·rw [if_neg c47] at H
         exact absurd H (by simp)
       ·rw [if_neg c46] at H
        obtain ⟨c46b0, c46b1⟩ := eqF c46
        by_cases c58 : a0_0 = 4
        ·rw [if_pos c58] at H
         obtain ⟨c58b0, c58b1⟩ := eqT c58
         clear c58
         by_cases c59 : 5 + t156.size ≤ 9223372036854775807
         ·rw [if_pos c59] at H
          have c59b0 := eq_true c59
          have c59b1 : decide (5 + t156.size ≤ 9223372036854775807) = true := decide_eq_true c59
          try have c59b2 : (9223372036854775807 < 5 + t156.size) = False := eq_false (Nat.not_lt.2 c59)
          by_cases c60 : ((⟨#[115, 116, 111, 114, 101]⟩ : ByteArray) ++ t156).size + 1 ≤ 9223372036854775807
          ·rw [if_pos c60] at H
           have c60b0 := eq_true c60
           have c60_y0 : ((9223372036854775807 < 5 + t156.size + 1) : Prop) = False := eq_false (by have h_ := c60; simp only [ByteArray.size_append] at h_; exact Nat.not_lt.2 h_)
           have c60_z0 : ((5 + t156.size + 1 ≤ 9223372036854775807) : Prop) = True := eq_true (by have h_ := c60; simp only [ByteArray.size_append] at h_; exact h_)
           have c60b1 : decide (((⟨#[115, 116, 111, 114, 101]⟩ : ByteArray) ++ t156).size + 1 ≤ 9223372036854775807) = true := decide_eq_true c60
           try have c60b2 : (9223372036854775807 < ((⟨#[115, 116, 111, 114, 101]⟩ : ByteArray) ++ t156).size + 1) = False := eq_false (Nat.not_lt.2 c60)
           by_cases c61 : (((⟨#[115, 116, 111, 114, 101]⟩ : ByteArray) ++ t156) ++ (⟨#[32]⟩ : ByteArray)).size + t153.size ≤ 9223372036854775807
           ·rw [if_pos c61] at H
            have c61b0 := eq_true c61
            have c61_y0 : ((9223372036854775807 < 5 + t156.size + 1 + t153.size) : Prop) = False := eq_false (by have h_ := c61; simp only [ByteArray.size_append] at h_; exact Nat.not_lt.2 h_)
            have c61_z0 : ((5 + t156.size + 1 + t153.size ≤ 9223372036854775807) : Prop) = True := eq_true (by have h_ := c61; simp only [ByteArray.size_append] at h_; exact h_)
            have c61b1 : decide ((((⟨#[115, 116, 111, 114, 101]⟩ : ByteArray) ++ t156) ++ (⟨#[32]⟩ : ByteArray)).size + t153.size ≤ 9223372036854775807) = true := decide_eq_true c61
            try have c61b2 : (9223372036854775807 < (((⟨#[115, 116, 111, 114, 101]⟩ : ByteArray) ++ t156) ++ (⟨#[32]⟩ : ByteArray)).size + t153.size) = False := eq_false (Nat.not_lt.2 c61)
            obtain ⟨t159, A62, H⟩ := bs_ H; try dsimp only at H
            by_cases c63 : ((((⟨#[115, 116, 111, 114, 101]⟩ : ByteArray) ++ t156) ++ (⟨#[32]⟩ : ByteArray)) ++ t153).size + t159.size ≤ 9223372036854775807
            ·rw [if_pos c63] at H
             have c63b0 := eq_true c63
             have c63_y0 : ((9223372036854775807 < 5 + t156.size + 1 + t153.size + t159.size) : Prop) = False := eq_false (by have h_ := c63; simp only [ByteArray.size_append] at h_; exact Nat.not_lt.2 h_)
             have c63_z0 : ((5 + t156.size + 1 + t153.size + t159.size ≤ 9223372036854775807) : Prop) = True := eq_true (by have h_ := c63; simp only [ByteArray.size_append] at h_; exact h_)
             have c63b1 : decide (((((⟨#[115, 116, 111, 114, 101]⟩ : ByteArray) ++ t156) ++ (⟨#[32]⟩ : ByteArray)) ++ t153).size + t159.size ≤ 9223372036854775807) = true := decide_eq_true c63
             try have c63b2 : (9223372036854775807 < ((((⟨#[115, 116, 111, 114, 101]⟩ : ByteArray) ++ t156) ++ (⟨#[32]⟩ : ByteArray)) ++ t153).size + t159.size) = False := eq_false (Nat.not_lt.2 c63)
             by_cases c64 : (((((⟨#[115, 116, 111, 114, 101]⟩ : ByteArray) ++ t156) ++ (⟨#[32]⟩ : ByteArray)) ++ t153) ++ t159).size + 2 ≤ 9223372036854775807
             ·rw [if_pos c64] at H
              have c64b0 := eq_true c64
              have c64_y0 : ((9223372036854775807 < 5 + t156.size + 1 + t153.size + t159.size + 2) : Prop) = False := eq_false (by have h_ := c64; simp only [ByteArray.size_append] at h_; exact Nat.not_lt.2 h_)
              have c64_z0 : ((5 + t156.size + 1 + t153.size + t159.size + 2 ≤ 9223372036854775807) : Prop) = True := eq_true (by have h_ := c64; simp only [ByteArray.size_append] at h_; exact h_)
              have c64b1 : decide ((((((⟨#[115, 116, 111, 114, 101]⟩ : ByteArray) ++ t156) ++ (⟨#[32]⟩ : ByteArray)) ++ t153) ++ t159).size + 2 ≤ 9223372036854775807) = true := decide_eq_true c64
              try have c64b2 : (9223372036854775807 < (((((⟨#[115, 116, 111, 114, 101]⟩ : ByteArray) ++ t156) ++ (⟨#[32]⟩ : ByteArray)) ++ t153) ++ t159).size + 2) = False := eq_false (Nat.not_lt.2 c64)
              by_cases c65 : ((((((⟨#[115, 116, 111, 114, 101]⟩ : ByteArray) ++ t156) ++ (⟨#[32]⟩ : ByteArray)) ++ t153) ++ t159) ++ (⟨#[44, 32]⟩ : ByteArray)).size + t154.size ≤ 9223372036854775807
              ·rw [if_pos c65] at H
               have c65b0 := eq_true c65
               have c65_y0 : ((9223372036854775807 < 5 + t156.size + 1 + t153.size + t159.size + 2 + t154.size) : Prop) = False := eq_false (by have h_ := c65; simp only [ByteArray.size_append] at h_; exact Nat.not_lt.2 h_)
               have c65_z0 : ((5 + t156.size + 1 + t153.size + t159.size + 2 + t154.size ≤ 9223372036854775807) : Prop) = True := eq_true (by have h_ := c65; simp only [ByteArray.size_append] at h_; exact h_)
               have c65b1 : decide (((((((⟨#[115, 116, 111, 114, 101]⟩ : ByteArray) ++ t156) ++ (⟨#[32]⟩ : ByteArray)) ++ t153) ++ t159) ++ (⟨#[44, 32]⟩ : ByteArray)).size + t154.size ≤ 9223372036854775807) = true := decide_eq_true c65
               try have c65b2 : (9223372036854775807 < ((((((⟨#[115, 116, 111, 114, 101]⟩ : ByteArray) ++ t156) ++ (⟨#[32]⟩ : ByteArray)) ++ t153) ++ t159) ++ (⟨#[44, 32]⟩ : ByteArray)).size + t154.size) = False := eq_false (Nat.not_lt.2 c65)
               obtain rfl := Option.some.inj H
               obtain ⟨hnb66, hnc66⟩ := nb_ NB151_152
               have hcz67 := blk_all5 BK151.out
               have hcz68 := blk_all5 BK152.out
               go_wp2_with (first | ((with_reducible refine gate_callee (f := 30) rfl ?_); refine sh_call (some 87) Tryd.func30 #[.int .i16 a1_3] ?_; (with_reducible refine (asm_offset.calls a1_3 t159 _ ?side1 A62.out).mono ?_); (case side1 => repeat (first | exact (Kd.C_below HRG3.out HB.out) | (with_reducible refine Kd.C_alloc ?_ _) | (with_reducible refine Kd.C_drewN ?_ _) | (with_reducible refine Kd.C_drew ?_))); rintro e w69 ⟨rfl, hb⟩; refine ⟨_, rfl, ?_⟩; replace BK151 := sh_k BK151 hb; replace BK152 := sh_k BK152 hb; replace HB := sh_b (w := w) hb; (try clear hb); (try clear hb2); (try clear hk); (try clear hi)))
               go_ret
               exact ⟨ret_now, b_now⟩
              ·rw [if_neg c65] at H
               exact absurd H (by simp)
             ·rw [if_neg c64] at H
              exact absurd H (by simp)
            ·rw [if_neg c63] at H
             exact absurd H (by simp)
           ·rw [if_neg c61] at H
            exact absurd H (by simp)
          ·rw [if_neg c60] at H
           exact absurd H (by simp)
         ·rw [if_neg c59] at H
          exact absurd H (by simp)
        ·rw [if_neg c58] at H
         obtain ⟨c58b0, c58b1⟩ := eqF c58
         by_cases c70 : a0_0 = 5
         ·rw [if_pos c70] at H
          obtain ⟨c70b0, c70b1⟩ := eqT c70
          clear c70
          by_cases c71 : 3 + t156.size ≤ 9223372036854775807
          ·rw [if_pos c71] at H
           have c71b0 := eq_true c71
           have c71b1 : decide (3 + t156.size ≤ 9223372036854775807) = true := decide_eq_true c71
           try have c71b2 : (9223372036854775807 < 3 + t156.size) = False := eq_false (Nat.not_lt.2 c71)
           by_cases c72 : ((⟨#[112, 117, 116]⟩ : ByteArray) ++ t156).size + 1 ≤ 9223372036854775807
           ·rw [if_pos c72] at H
            have c72b0 := eq_true c72
            have c72_y0 : ((9223372036854775807 < 3 + t156.size + 1) : Prop) = False := eq_false (by have h_ := c72; simp only [ByteArray.size_append] at h_; exact Nat.not_lt.2 h_)
            have c72_z0 : ((3 + t156.size + 1 ≤ 9223372036854775807) : Prop) = True := eq_true (by have h_ := c72; simp only [ByteArray.size_append] at h_; exact h_)
            have c72b1 : decide (((⟨#[112, 117, 116]⟩ : ByteArray) ++ t156).size + 1 ≤ 9223372036854775807) = true := decide_eq_true c72
            try have c72b2 : (9223372036854775807 < ((⟨#[112, 117, 116]⟩ : ByteArray) ++ t156).size + 1) = False := eq_false (Nat.not_lt.2 c72)
            by_cases c73 : (((⟨#[112, 117, 116]⟩ : ByteArray) ++ t156) ++ (⟨#[32]⟩ : ByteArray)).size + t153.size ≤ 9223372036854775807
            ·rw [if_pos c73] at H
             have c73b0 := eq_true c73
             have c73_y0 : ((9223372036854775807 < 3 + t156.size + 1 + t153.size) : Prop) = False := eq_false (by have h_ := c73; simp only [ByteArray.size_append] at h_; exact Nat.not_lt.2 h_)
             have c73_z0 : ((3 + t156.size + 1 + t153.size ≤ 9223372036854775807) : Prop) = True := eq_true (by have h_ := c73; simp only [ByteArray.size_append] at h_; exact h_)
             have c73b1 : decide ((((⟨#[112, 117, 116]⟩ : ByteArray) ++ t156) ++ (⟨#[32]⟩ : ByteArray)).size + t153.size ≤ 9223372036854775807) = true := decide_eq_true c73
             try have c73b2 : (9223372036854775807 < (((⟨#[112, 117, 116]⟩ : ByteArray) ++ t156) ++ (⟨#[32]⟩ : ByteArray)).size + t153.size) = False := eq_false (Nat.not_lt.2 c73)
             obtain ⟨t160, A74, H⟩ := bs_ H; try dsimp only at H
             by_cases c75 : ((((⟨#[112, 117, 116]⟩ : ByteArray) ++ t156) ++ (⟨#[32]⟩ : ByteArray)) ++ t153).size + t160.size ≤ 9223372036854775807
             ·rw [if_pos c75] at H
              have c75b0 := eq_true c75
              have c75_y0 : ((9223372036854775807 < 3 + t156.size + 1 + t153.size + t160.size) : Prop) = False := eq_false (by have h_ := c75; simp only [ByteArray.size_append] at h_; exact Nat.not_lt.2 h_)
              have c75_z0 : ((3 + t156.size + 1 + t153.size + t160.size ≤ 9223372036854775807) : Prop) = True := eq_true (by have h_ := c75; simp only [ByteArray.size_append] at h_; exact h_)
              have c75b1 : decide (((((⟨#[112, 117, 116]⟩ : ByteArray) ++ t156) ++ (⟨#[32]⟩ : ByteArray)) ++ t153).size + t160.size ≤ 9223372036854775807) = true := decide_eq_true c75
              try have c75b2 : (9223372036854775807 < ((((⟨#[112, 117, 116]⟩ : ByteArray) ++ t156) ++ (⟨#[32]⟩ : ByteArray)) ++ t153).size + t160.size) = False := eq_false (Nat.not_lt.2 c75)
              by_cases c76 : (((((⟨#[112, 117, 116]⟩ : ByteArray) ++ t156) ++ (⟨#[32]⟩ : ByteArray)) ++ t153) ++ t160).size + 2 ≤ 9223372036854775807
              ·rw [if_pos c76] at H
               have c76b0 := eq_true c76
               have c76_y0 : ((9223372036854775807 < 3 + t156.size + 1 + t153.size + t160.size + 2) : Prop) = False := eq_false (by have h_ := c76; simp only [ByteArray.size_append] at h_; exact Nat.not_lt.2 h_)
               have c76_z0 : ((3 + t156.size + 1 + t153.size + t160.size + 2 ≤ 9223372036854775807) : Prop) = True := eq_true (by have h_ := c76; simp only [ByteArray.size_append] at h_; exact h_)
               have c76b1 : decide ((((((⟨#[112, 117, 116]⟩ : ByteArray) ++ t156) ++ (⟨#[32]⟩ : ByteArray)) ++ t153) ++ t160).size + 2 ≤ 9223372036854775807) = true := decide_eq_true c76
               try have c76b2 : (9223372036854775807 < (((((⟨#[112, 117, 116]⟩ : ByteArray) ++ t156) ++ (⟨#[32]⟩ : ByteArray)) ++ t153) ++ t160).size + 2) = False := eq_false (Nat.not_lt.2 c76)
               by_cases c77 : ((((((⟨#[112, 117, 116]⟩ : ByteArray) ++ t156) ++ (⟨#[32]⟩ : ByteArray)) ++ t153) ++ t160) ++ (⟨#[44, 32]⟩ : ByteArray)).size + t155.size ≤ 9223372036854775807
               ·rw [if_pos c77] at H
                have c77b0 := eq_true c77
                have c77_y0 : ((9223372036854775807 < 3 + t156.size + 1 + t153.size + t160.size + 2 + t155.size) : Prop) = False := eq_false (by have h_ := c77; simp only [ByteArray.size_append] at h_; exact Nat.not_lt.2 h_)
                have c77_z0 : ((3 + t156.size + 1 + t153.size + t160.size + 2 + t155.size ≤ 9223372036854775807) : Prop) = True := eq_true (by have h_ := c77; simp only [ByteArray.size_append] at h_; exact h_)
                have c77b1 : decide (((((((⟨#[112, 117, 116]⟩ : ByteArray) ++ t156) ++ (⟨#[32]⟩ : ByteArray)) ++ t153) ++ t160) ++ (⟨#[44, 32]⟩ : ByteArray)).size + t155.size ≤ 9223372036854775807) = true := decide_eq_true c77
                try have c77b2 : (9223372036854775807 < ((((((⟨#[112, 117, 116]⟩ : ByteArray) ++ t156) ++ (⟨#[32]⟩ : ByteArray)) ++ t153) ++ t160) ++ (⟨#[44, 32]⟩ : ByteArray)).size + t155.size) = False := eq_false (Nat.not_lt.2 c77)
                obtain rfl := Option.some.inj H
                obtain ⟨hnb78, hnc78⟩ := nb_ NB151_152
                have hcz79 := blk_all5 BK151.out
                have hcz80 := blk_all5 BK152.out
                go_wp2_with (first | ((with_reducible refine gate_callee (f := 30) rfl ?_); refine sh_call (some 101) Tryd.func30 #[.int .i16 a1_3] ?_; (with_reducible refine (asm_offset.calls a1_3 t160 _ ?side1 A74.out).mono ?_); (case side1 => repeat (first | exact (Kd.C_below HRG3.out HB.out) | (with_reducible refine Kd.C_alloc ?_ _) | (with_reducible refine Kd.C_drewN ?_ _) | (with_reducible refine Kd.C_drew ?_))); rintro e w81 ⟨rfl, hb⟩; refine ⟨_, rfl, ?_⟩; replace BK151 := sh_k BK151 hb; replace BK152 := sh_k BK152 hb; replace HB := sh_b (w := w) hb; (try clear hb); (try clear hb2); (try clear hk); (try clear hi)))
                go_ret
                exact ⟨ret_now, b_now⟩
               ·rw [if_neg c77] at H
                exact absurd H (by simp)
              ·rw [if_neg c76] at H
               exact absurd H (by simp)
             ·rw [if_neg c75] at H
              exact absurd H (by simp)
            ·rw [if_neg c73] at H
             exact absurd H (by simp)
           ·rw [if_neg c72] at H
            exact absurd H (by simp)
          ·rw [if_neg c71] at H
           exact absurd H (by simp)
         ·rw [if_neg c70] at H
          obtain ⟨c70b0, c70b1⟩ := eqF c70
          by_cases c82 : a0_0 = 6
          ·rw [if_pos c82] at H
           obtain ⟨c82b0, c82b1⟩ := eqT c82
           clear c82
           by_cases c83 : 0 ≤ a0_1
           ·rw [if_pos c83] at H
            have c83b0 : decide (0 ≤ a0_1) = true := decide_eq_true c83
            clear c83
            by_cases c84 : a0_1 < 14
            ·rw [if_pos c84] at H
             have c84b0 : decide (a0_1 < 14) = true := decide_eq_true c84
             clear c84
             by_cases c85 : (rdOf ByteArray.empty gl1 a0_1).size + x11_7.size ≤ 9223372036854775807
             ·rw [if_pos c85] at H
              have c85b0 := eq_true c85
              have c85b1 : decide ((rdOf ByteArray.empty gl1 a0_1).size + x11_7.size ≤ 9223372036854775807) = true := decide_eq_true c85
              try have c85b2 : (9223372036854775807 < (rdOf ByteArray.empty gl1 a0_1).size + x11_7.size) = False := eq_false (Nat.not_lt.2 c85)
              by_cases c86 : ((rdOf ByteArray.empty gl1 a0_1) ++ x11_7).size + 1 ≤ 9223372036854775807
              ·rw [if_pos c86] at H
               have c86b0 := eq_true c86
               have c86_y0 : ((9223372036854775807 < (rdOf ByteArray.empty gl1 a0_1).size + x11_7.size + 1) : Prop) = False := eq_false (by have h_ := c86; simp only [ByteArray.size_append] at h_; exact Nat.not_lt.2 h_)
               have c86_z0 : (((rdOf ByteArray.empty gl1 a0_1).size + x11_7.size + 1 ≤ 9223372036854775807) : Prop) = True := eq_true (by have h_ := c86; simp only [ByteArray.size_append] at h_; exact h_)
               have c86b1 : decide (((rdOf ByteArray.empty gl1 a0_1) ++ x11_7).size + 1 ≤ 9223372036854775807) = true := decide_eq_true c86
               try have c86b2 : (9223372036854775807 < ((rdOf ByteArray.empty gl1 a0_1) ++ x11_7).size + 1) = False := eq_false (Nat.not_lt.2 c86)
               by_cases c87 : (((rdOf ByteArray.empty gl1 a0_1) ++ x11_7) ++ (⟨#[32]⟩ : ByteArray)).size + t153.size ≤ 9223372036854775807
               ·rw [if_pos c87] at H
                have c87b0 := eq_true c87
                have c87_y0 : ((9223372036854775807 < (rdOf ByteArray.empty gl1 a0_1).size + x11_7.size + 1 + t153.size) : Prop) = False := eq_false (by have h_ := c87; simp only [ByteArray.size_append] at h_; exact Nat.not_lt.2 h_)
                have c87_z0 : (((rdOf ByteArray.empty gl1 a0_1).size + x11_7.size + 1 + t153.size ≤ 9223372036854775807) : Prop) = True := eq_true (by have h_ := c87; simp only [ByteArray.size_append] at h_; exact h_)
                have c87b1 : decide ((((rdOf ByteArray.empty gl1 a0_1) ++ x11_7) ++ (⟨#[32]⟩ : ByteArray)).size + t153.size ≤ 9223372036854775807) = true := decide_eq_true c87
                try have c87b2 : (9223372036854775807 < (((rdOf ByteArray.empty gl1 a0_1) ++ x11_7) ++ (⟨#[32]⟩ : ByteArray)).size + t153.size) = False := eq_false (Nat.not_lt.2 c87)
                by_cases c88 : ((((rdOf ByteArray.empty gl1 a0_1) ++ x11_7) ++ (⟨#[32]⟩ : ByteArray)) ++ t153).size + 2 ≤ 9223372036854775807
                ·rw [if_pos c88] at H
                 have c88b0 := eq_true c88
                 have c88_y0 : ((9223372036854775807 < (rdOf ByteArray.empty gl1 a0_1).size + x11_7.size + 1 + t153.size + 2) : Prop) = False := eq_false (by have h_ := c88; simp only [ByteArray.size_append] at h_; exact Nat.not_lt.2 h_)
                 have c88_z0 : (((rdOf ByteArray.empty gl1 a0_1).size + x11_7.size + 1 + t153.size + 2 ≤ 9223372036854775807) : Prop) = True := eq_true (by have h_ := c88; simp only [ByteArray.size_append] at h_; exact h_)
                 have c88b1 : decide (((((rdOf ByteArray.empty gl1 a0_1) ++ x11_7) ++ (⟨#[32]⟩ : ByteArray)) ++ t153).size + 2 ≤ 9223372036854775807) = true := decide_eq_true c88
                 try have c88b2 : (9223372036854775807 < ((((rdOf ByteArray.empty gl1 a0_1) ++ x11_7) ++ (⟨#[32]⟩ : ByteArray)) ++ t153).size + 2) = False := eq_false (Nat.not_lt.2 c88)
                 by_cases c89 : (((((rdOf ByteArray.empty gl1 a0_1) ++ x11_7) ++ (⟨#[32]⟩ : ByteArray)) ++ t153) ++ (⟨#[44, 32]⟩ : ByteArray)).size + x12_19.size ≤ 9223372036854775807
                 ·rw [if_pos c89] at H
                  have c89b0 := eq_true c89
                  have c89_y0 : ((9223372036854775807 < (rdOf ByteArray.empty gl1 a0_1).size + x11_7.size + 1 + t153.size + 2 + x12_19.size) : Prop) = False := eq_false (by have h_ := c89; simp only [ByteArray.size_append] at h_; exact Nat.not_lt.2 h_)
                  have c89_z0 : (((rdOf ByteArray.empty gl1 a0_1).size + x11_7.size + 1 + t153.size + 2 + x12_19.size ≤ 9223372036854775807) : Prop) = True := eq_true (by have h_ := c89; simp only [ByteArray.size_append] at h_; exact h_)
                  have c89b1 : decide ((((((rdOf ByteArray.empty gl1 a0_1) ++ x11_7) ++ (⟨#[32]⟩ : ByteArray)) ++ t153) ++ (⟨#[44, 32]⟩ : ByteArray)).size + x12_19.size ≤ 9223372036854775807) = true := decide_eq_true c89
                  try have c89b2 : (9223372036854775807 < (((((rdOf ByteArray.empty gl1 a0_1) ++ x11_7) ++ (⟨#[32]⟩ : ByteArray)) ++ t153) ++ (⟨#[44, 32]⟩ : ByteArray)).size + x12_19.size) = False := eq_false (Nat.not_lt.2 c89)
                  by_cases c90 : ((((((rdOf ByteArray.empty gl1 a0_1) ++ x11_7) ++ (⟨#[32]⟩ : ByteArray)) ++ t153) ++ (⟨#[44, 32]⟩ : ByteArray)) ++ x12_19).size + 2 ≤ 9223372036854775807
                  ·rw [if_pos c90] at H
                   have c90b0 := eq_true c90
                   have c90_y0 : ((9223372036854775807 < (rdOf ByteArray.empty gl1 a0_1).size + x11_7.size + 1 + t153.size + 2 + x12_19.size + 2) : Prop) = False := eq_false (by have h_ := c90; simp only [ByteArray.size_append] at h_; exact Nat.not_lt.2 h_)
                   have c90_z0 : (((rdOf ByteArray.empty gl1 a0_1).size + x11_7.size + 1 + t153.size + 2 + x12_19.size + 2 ≤ 9223372036854775807) : Prop) = True := eq_true (by have h_ := c90; simp only [ByteArray.size_append] at h_; exact h_)
                   have c90b1 : decide (((((((rdOf ByteArray.empty gl1 a0_1) ++ x11_7) ++ (⟨#[32]⟩ : ByteArray)) ++ t153) ++ (⟨#[44, 32]⟩ : ByteArray)) ++ x12_19).size + 2 ≤ 9223372036854775807) = true := decide_eq_true c90
                   try have c90b2 : (9223372036854775807 < ((((((rdOf ByteArray.empty gl1 a0_1) ++ x11_7) ++ (⟨#[32]⟩ : ByteArray)) ++ t153) ++ (⟨#[44, 32]⟩ : ByteArray)) ++ x12_19).size + 2) = False := eq_false (Nat.not_lt.2 c90)
                   obtain ⟨t162, A91, H⟩ := bs_ H; try dsimp only at H
                   by_cases c92 : (((((((rdOf ByteArray.empty gl1 a0_1) ++ x11_7) ++ (⟨#[32]⟩ : ByteArray)) ++ t153) ++ (⟨#[44, 32]⟩ : ByteArray)) ++ x12_19) ++ (⟨#[44, 32]⟩ : ByteArray)).size + t162.size ≤ 9223372036854775807
                   ·rw [if_pos c92] at H
                    have c92b0 := eq_true c92
                    have c92_y0 : ((9223372036854775807 < (rdOf ByteArray.empty gl1 a0_1).size + x11_7.size + 1 + t153.size + 2 + x12_19.size + 2 + t162.size) : Prop) = False := eq_false (by have h_ := c92; simp only [ByteArray.size_append] at h_; exact Nat.not_lt.2 h_)
                    have c92_z0 : (((rdOf ByteArray.empty gl1 a0_1).size + x11_7.size + 1 + t153.size + 2 + x12_19.size + 2 + t162.size ≤ 9223372036854775807) : Prop) = True := eq_true (by have h_ := c92; simp only [ByteArray.size_append] at h_; exact h_)
                    have c92b1 : decide ((((((((rdOf ByteArray.empty gl1 a0_1) ++ x11_7) ++ (⟨#[32]⟩ : ByteArray)) ++ t153) ++ (⟨#[44, 32]⟩ : ByteArray)) ++ x12_19) ++ (⟨#[44, 32]⟩ : ByteArray)).size + t162.size ≤ 9223372036854775807) = true := decide_eq_true c92
                    try have c92b2 : (9223372036854775807 < (((((((rdOf ByteArray.empty gl1 a0_1) ++ x11_7) ++ (⟨#[32]⟩ : ByteArray)) ++ t153) ++ (⟨#[44, 32]⟩ : ByteArray)) ++ x12_19) ++ (⟨#[44, 32]⟩ : ByteArray)).size + t162.size) = False := eq_false (Nat.not_lt.2 c92)
                    obtain rfl := Option.some.inj H
                    obtain ⟨hnb93, hnc93⟩ := nb_ NB151_152
                    have hcz94 := blk_all5 BK151.out
                    try go_wp2
                    have n0_ := Aside0.mk (blk_drew BK151.out)
                    have n1_ := Aside0.mk (blk_drew BK152.out)
                    have n2_ := Aside0.mk (below_drew1 HB.out)
                    clear BK151
                    clear BK152
                    clear HB
                    have BK151 := n0_
                    have BK152 := n1_
                    have HB := n2_
                    clear n0_ n1_ n2_
                    have p161 : 0 ≤ (a0_1 : Int) := od_
                    have q161 : a0_1 < (gl1.length : Int) := od_
                    have ql161 : ((a0_1 : Int) < (14 : Int)) = True := eq_true (od_)
                    obtain ⟨ad161, e161, hx161_0⟩ := Kd.at_string HRG1.out a0_1 p161 q161
                    have hw161_0 := hx161_0
                    obtain rfl : (⟨1, 0, none⟩ : Addr) = ad161 := (by injection e161)
                    (first | simp only [add_plain] at hx161_0 | simp only [add_at] at hx161_0 | simp only [Addr.add, Nat.zero_add] at hx161_0 | skip)
                    replace hx161_0 := (HB.out.cell (World.block_lt_of_cell? w _ hx161_0)).trans hx161_0
                    replace p161 := eq_true p161
                    replace q161 := eq_true q161
                    refine start_ (n := 18) (S := fun w' => w'.cell? ⟨gb151, 0, none⟩ = some (.int .i64 a0_0) ∧ w'.cell? ⟨gb151, 1, none⟩ = some (.int .i64 a0_1) ∧ w'.cell? ⟨gb151, 2, none⟩ = some (.int .i64 a0_2) ∧ w'.cell? ⟨gb151, 3, none⟩ = some (.bool a0_3) ∧ w'.cell? ⟨gb151, 4, none⟩ = some (.bool a0_4) ∧ w'.cell? ⟨gb152, 0, none⟩ = some (.int .u8 a1_0) ∧ w'.cell? ⟨gb152, 1, none⟩ = some (.int .u8 a1_1) ∧ w'.cell? ⟨gb152, 2, none⟩ = some (.int .u8 a1_2) ∧ w'.cell? ⟨gb152, 3, none⟩ = some (.int .i16 a1_3) ∧ w'.cell? ⟨gb152, 4, none⟩ = some (.int .i32 a1_4) ∧ w'.cell? ((⟨1, 0, none⟩ : Addr).add (a0_1).toNat) = some (.string (rdOf ByteArray.empty gl1 a0_1))) (ds := []) (fl 0 18) (by kernel_rfl) rfl rfl ⟨(blk_cell BK151.out 0).trans rfl, (blk_cell BK151.out 1).trans rfl, (blk_cell BK151.out 2).trans rfl, (blk_cell BK151.out 3).trans rfl, (blk_cell BK151.out 4).trans rfl, (blk_cell BK152.out 0).trans rfl, (blk_cell BK152.out 1).trans rfl, (blk_cell BK152.out 2).trans rfl, (blk_cell BK152.out 3).trans rfl, (blk_cell BK152.out 4).trans rfl, ((HB.out.cell (World.block_lt_of_cell? w _ hw161_0)).trans hw161_0)⟩ (fun hHeld => ?_); refine with_tabW asm_line.tab23 asm_line.bits23 (fun HT_ HW_ => ?_)
                    generalize wc.drew = w95 at BK151 BK152 HB hx161_0 hHeld ⊢
                    refine pure_ (i := 0) (N := some 108) (v := ?_) (a' := ?_) (fl 1 17) rfl rfl (any_of HT_.out (by kernel_rfl)) (fun _ _ _ h => h) (Or.inl ⟨by rfl, ?_⟩) ?_ ?_
                    rotate_left; exact ga_; rotate_left; exact gb_
                    refine pure_ (i := 4) (N := some 112) (v := ?_) (a' := ?_) (fm 18 17) rfl rfl (any_of HT_.out (by kernel_rfl)) (fun _ _ _ h => h) (Or.inl ⟨by rfl, ?_⟩) ?_ ?_
                    rotate_left; exact ga_; rotate_left; exact gb_
                    refine pure_ (i := 7) (N := some 115) (v := ?_) (a' := ?_) (fm 18 145) rfl rfl (any_of HT_.out (by kernel_rfl)) (fun _ _ _ h => h) (Or.inl ⟨by rfl, ?_⟩) ?_ ?_
                    rotate_left; exact ga_; rotate_left; exact gb_
                    refine pure_ (i := 10) (N := some 118) (v := ?_) (a' := ?_) (fm 18 1169) rfl rfl (any_of HT_.out (by kernel_rfl)) (fun _ _ _ h => h) (Or.inl ⟨by rfl, ?_⟩) ?_ ?_
                    rotate_left; exact ga_; rotate_left; exact gb_
                    refine pure_ (i := 13) (N := some 121) (v := ?_) (a' := ?_) (fm 18 9361) rfl rfl (any_of HT_.out (by kernel_rfl)) (fun _ _ _ h => h) (Or.inl ⟨by rfl, ?_⟩) ?_ ?_
                    rotate_left; exact ga_; rotate_left; exact gb_
                    refine take_ (i := 1) (N := some 109) (v := ?_) (a' := ?_) (fm 18 9363) rfl rfl (take_ofW HT_.out HW_.out (by kernel_rfl)) (fun _ _ _ h => h) (Or.inl ⟨by rfl, ?_⟩) hHeld ?_ ?_
                    rotate_left
                    ·rintro w' ⟨s0, s1, s2, s3, s4, s5, s6, s7, s8, s9, s10⟩
                     first | (go_simp; with_reducible rfl) | (simp only [add_plain, Nat.zero_add] at s10; go_simp; with_reducible rfl)
                    rotate_left; exact gb_
                    refine pure_ (i := 2) (N := some 110) (v := ?_) (a' := ?_) (fm 18 9367) rfl rfl (any_of HT_.out (by kernel_rfl)) (fun _ _ _ h => h) (Or.inl ⟨by rfl, ?_⟩) ?_ ?_
                    rotate_left; exact ga_; rotate_left; exact gb_
                    refine take_ (i := 3) (N := some 111) (v := ?_) (a' := ?_) (fm 18 9375) rfl rfl (take_ofW HT_.out HW_.out (by kernel_rfl)) (fun _ _ _ h => h) (Or.inl ⟨by rfl, ?_⟩) hHeld ?_ ?_
                    rotate_left
                    ·rintro w' ⟨s0, s1, s2, s3, s4, s5, s6, s7, s8, s9, s10⟩
                     first | (go_simp; with_reducible rfl) | (simp only [add_plain, Nat.zero_add] at s10; go_simp; with_reducible rfl)
                    rotate_left; exact gb_
                    refine pure_ (i := 5) (N := some 113) (v := ?_) (a' := ?_) (fm 18 9407) rfl rfl (any_of HT_.out (by kernel_rfl)) (fun _ _ _ h => h) (Or.inl ⟨by rfl, ?_⟩) ?_ ?_
                    rotate_left; exact ga_; rotate_left; exact gb_
                    refine pure_ (i := 6) (N := some 114) (v := ?_) (a' := ?_) (fm 18 9471) rfl rfl (any_of HT_.out (by kernel_rfl)) (fun _ _ _ h => h) (Or.inl ⟨by rfl, ?_⟩) ?_ ?_
                    rotate_left; exact ga_; rotate_left; exact gb_
                    refine pure_ (i := 8) (N := some 116) (v := ?_) (a' := ?_) (fm 18 9727) rfl rfl (any_of HT_.out (by kernel_rfl)) (fun _ _ _ h => h) (Or.inl ⟨by rfl, ?_⟩) ?_ ?_
                    rotate_left; exact ga_; rotate_left; exact gb_
                    refine pure_ (i := 9) (N := some 117) (v := ?_) (a' := ?_) (fm 18 10239) rfl rfl (any_of HT_.out (by kernel_rfl)) (fun _ _ _ h => h) (Or.inl ⟨by rfl, ?_⟩) ?_ ?_
                    rotate_left; exact ga_; rotate_left; exact gb_
                    refine pure_ (i := 11) (N := some 119) (v := ?_) (a' := ?_) (fm 18 12287) rfl rfl (any_of HT_.out (by kernel_rfl)) (fun _ _ _ h => h) (Or.inl ⟨by rfl, ?_⟩) ?_ ?_
                    rotate_left; exact ga_; rotate_left; exact gb_
                    refine pure_ (i := 12) (N := some 120) (v := ?_) (a' := ?_) (fl 14 4) rfl rfl (any_of HT_.out (by kernel_rfl)) (fun _ _ _ h => h) (Or.inl ⟨by rfl, ?_⟩) ?_ ?_
                    rotate_left; exact ga_; rotate_left; exact gb_
                    refine take_ (i := 14) (N := some 122) (v := ?_) (a' := ?_) (fl 15 3) rfl rfl (take_ofW HT_.out HW_.out (by kernel_rfl)) (fun _ _ _ h => h) (Or.inl ⟨by rfl, ?_⟩) hHeld ?_ ?_
                    rotate_left
                    ·rintro w' ⟨s0, s1, s2, s3, s4, s5, s6, s7, s8, s9, s10⟩
                     first | (go_simp; with_reducible rfl) | (simp only [add_plain, Nat.zero_add] at s10; go_simp; with_reducible rfl)
                    rotate_left; exact gb_
                    refine one_ (i := 15) (N := some 123) (fl 16 2) rfl rfl (one_of HT_.out (by kernel_rfl)) (by decide) (fun K hK => ?_)
                    refine goes_ Tryd.func30 (by kernel_rfl) rfl #[.int .i16 a1_3] (by rfl) rfl rfl (by (try simp only [List.map_toArray, List.map_cons, List.map_nil]); first | done | rfl | (simp only [List.length_drop, List.length_take]; rfl)) ?_
                    with_reducible refine (asm_offset.calls a1_3 t162 _ ?side1 A91.out).mono ?_
                    (case side1 => repeat (first | exact (Kd.C_below HRG3.out HB.out) | (with_reducible refine Kd.C_alloc ?_ _) | (with_reducible refine Kd.C_drewN ?_ _) | (with_reducible refine Kd.C_drew ?_)))
                    rintro e w96 ⟨rfl, hb⟩
                    refine ⟨_, rfl, ?_⟩
                    have n0_ := Aside0.mk (blk_below (g := gb151) (o := .cells #[.int .i64 a0_0, .int .i64 a0_1, .int .i64 a0_2, .bool a0_3, .bool a0_4] 49 (0, 0)) bk_now hb)
                    have n1_ := Aside0.mk (blk_below (g := gb152) (o := .cells #[.int .u8 a1_0, .int .u8 a1_1, .int .u8 a1_2, .int .i16 a1_3, .int .i32 a1_4] 37 (0, 0)) bk_now hb)
                    have n2_ := Aside0.mk (below_step b_now hb)
                    clear BK151
                    clear BK152
                    clear HB
                    have BK151 := n0_
                    have BK152 := n1_
                    have HB := n2_
                    clear n0_ n1_ n2_
                    (try clear hb)
                    (try clear hb2)
                    (try clear hk)
                    (try clear hi)
                    refine hK.out _ _ ⟨(blk_cell BK151.out 0).trans rfl, (blk_cell BK151.out 1).trans rfl, (blk_cell BK151.out 2).trans rfl, (blk_cell BK151.out 3).trans rfl, (blk_cell BK151.out 4).trans rfl, (blk_cell BK152.out 0).trans rfl, (blk_cell BK152.out 1).trans rfl, (blk_cell BK152.out 2).trans rfl, (blk_cell BK152.out 3).trans rfl, (blk_cell BK152.out 4).trans rfl, ((HB.out.cell (World.block_lt_of_cell? w _ hw161_0)).trans hw161_0)⟩ (fun hHeld => ?_)
                    clear hK K
                    refine norm_ (a' := ?_) ?_ ?_
                    rotate_left
                    ·show Act.put _ (some 123) _ = _
                     simp only [Act.put, List.setIfInBounds_toArray, List.set_cons_zero, List.set_cons_succ, i64_w, i32_w]
                     rfl
                    refine pure_ (i := 16) (N := some 124) (v := ?_) (a' := ?_) (fl 17 1) rfl rfl (any_of HT_.out (by kernel_rfl)) (fun _ _ _ h => h) (Or.inl ⟨by rfl, ?_⟩) ?_ ?_
                    rotate_left; exact ga_; rotate_left; exact gb_
                    refine pure_ (i := 17) (N := some 6) (v := ?_) (a' := ?_) (fl 18 0) rfl rfl (any_of HT_.out (by kernel_rfl)) (fun _ _ _ h => h) (Or.inl ⟨by rfl, ?_⟩) ?_ ?_
                    rotate_left; exact ga_; rotate_left; exact gb_
                    refine done_ (done_of HT_.out (by kernel_rfl)) ?_
                    try go_wp2
                    go_ret
                    exact ⟨ret_now, b_now⟩
                   ·rw [if_neg c92] at H
                    exact absurd H (by simp)
                  ·rw [if_neg c90] at H
                   exact absurd H (by simp)
                 ·rw [if_neg c89] at H
                  exact absurd H (by simp)
                ·rw [if_neg c88] at H
                 exact absurd H (by simp)
               ·rw [if_neg c87] at H
                exact absurd H (by simp)
              ·rw [if_neg c86] at H
               exact absurd H (by simp)
             ·rw [if_neg c85] at H
              exact absurd H (by simp)
            ·rw [if_neg c84] at H
             exact absurd H (by simp)
           ·rw [if_neg c83] at H
            exact absurd H (by simp)
          ·rw [if_neg c82] at H
           obtain ⟨c82b0, c82b1⟩ := eqF c82
           by_cases c97 : a0_0 = 7
           ·rw [if_pos c97] at H
            obtain ⟨c97b0, c97b1⟩ := eqT c97
            clear c97
            obtain ⟨t163, A98, H⟩ := bs_ H; try dsimp only at H
            by_cases c99 : 5 + t163.size ≤ 9223372036854775807
            ·rw [if_pos c99] at H
             have c99b0 := eq_true c99
             have c99b1 : decide (5 + t163.size ≤ 9223372036854775807) = true := decide_eq_true c99
             try have c99b2 : (9223372036854775807 < 5 + t163.size) = False := eq_false (Nat.not_lt.2 c99)
             obtain rfl := Option.some.inj H
             obtain ⟨hnb100, hnc100⟩ := nb_ NB151_152
             have hcz101 := blk_all5 BK151.out
             have hcz102 := blk_all5 BK152.out
             go_wp2_with (first | ((with_reducible refine gate_callee (f := 30) rfl ?_); refine sh_call (some 129) Tryd.func30 #[.int .i16 a1_3] ?_; (with_reducible refine (asm_offset.calls a1_3 t163 _ ?side1 A98.out).mono ?_); (case side1 => repeat (first | exact (Kd.C_below HRG3.out HB.out) | (with_reducible refine Kd.C_alloc ?_ _) | (with_reducible refine Kd.C_drewN ?_ _) | (with_reducible refine Kd.C_drew ?_))); rintro e w103 ⟨rfl, hb⟩; refine ⟨_, rfl, ?_⟩; replace BK151 := sh_k BK151 hb; replace BK152 := sh_k BK152 hb; replace HB := sh_b (w := w) hb; (try clear hb); (try clear hb2); (try clear hk); (try clear hi)))
             go_ret
             exact ⟨ret_now, b_now⟩
            ·rw [if_neg c99] at H
             exact absurd H (by simp)
           ·rw [if_neg c97] at H
            obtain ⟨c97b0, c97b1⟩ := eqF c97
            by_cases c104 : a0_0 = 8
            ·rw [if_pos c104] at H
             obtain ⟨c104b0, c104b1⟩ := eqT c104
             clear c104
             by_cases c105 : 5 + t155.size ≤ 9223372036854775807
             ·rw [if_pos c105] at H
              have c105b0 := eq_true c105
              have c105b1 : decide (5 + t155.size ≤ 9223372036854775807) = true := decide_eq_true c105
              try have c105b2 : (9223372036854775807 < 5 + t155.size) = False := eq_false (Nat.not_lt.2 c105)
              obtain rfl := Option.some.inj H
              obtain ⟨hnb106, hnc106⟩ := nb_ NB151_152
              have hcz107 := blk_all5 BK151.out
              go_wp2
              go_ret
              exact ⟨ret_now, b_now⟩
             ·rw [if_neg c105] at H
              exact absurd H (by simp)
            ·rw [if_neg c104] at H
             obtain ⟨c104b0, c104b1⟩ := eqF c104
             by_cases c108 : a0_0 = 10
             ·rw [if_pos c108] at H
              obtain ⟨c108b0, c108b1⟩ := eqT c108
              clear c108
              by_cases c109 : 6 + t153.size ≤ 9223372036854775807
              ·rw [if_pos c109] at H
               have c109b0 := eq_true c109
               have c109b1 : decide (6 + t153.size ≤ 9223372036854775807) = true := decide_eq_true c109
               try have c109b2 : (9223372036854775807 < 6 + t153.size) = False := eq_false (Nat.not_lt.2 c109)
               by_cases c110 : ((⟨#[99, 111, 110, 115, 116, 32]⟩ : ByteArray) ++ t153).size + 2 ≤ 9223372036854775807
               ·rw [if_pos c110] at H
                have c110b0 := eq_true c110
                have c110_y0 : ((9223372036854775807 < 6 + t153.size + 2) : Prop) = False := eq_false (by have h_ := c110; simp only [ByteArray.size_append] at h_; exact Nat.not_lt.2 h_)
                have c110_z0 : ((6 + t153.size + 2 ≤ 9223372036854775807) : Prop) = True := eq_true (by have h_ := c110; simp only [ByteArray.size_append] at h_; exact h_)
                have c110b1 : decide (((⟨#[99, 111, 110, 115, 116, 32]⟩ : ByteArray) ++ t153).size + 2 ≤ 9223372036854775807) = true := decide_eq_true c110
                try have c110b2 : (9223372036854775807 < ((⟨#[99, 111, 110, 115, 116, 32]⟩ : ByteArray) ++ t153).size + 2) = False := eq_false (Nat.not_lt.2 c110)
                obtain ⟨t164, A111, H⟩ := bs_ H; try dsimp only at H
                by_cases c112 : (((⟨#[99, 111, 110, 115, 116, 32]⟩ : ByteArray) ++ t153) ++ (⟨#[44, 32]⟩ : ByteArray)).size + t164.size ≤ 9223372036854775807
                ·rw [if_pos c112] at H
                 have c112b0 := eq_true c112
                 have c112_y0 : ((9223372036854775807 < 6 + t153.size + 2 + t164.size) : Prop) = False := eq_false (by have h_ := c112; simp only [ByteArray.size_append] at h_; exact Nat.not_lt.2 h_)
                 have c112_z0 : ((6 + t153.size + 2 + t164.size ≤ 9223372036854775807) : Prop) = True := eq_true (by have h_ := c112; simp only [ByteArray.size_append] at h_; exact h_)
                 have c112b1 : decide ((((⟨#[99, 111, 110, 115, 116, 32]⟩ : ByteArray) ++ t153) ++ (⟨#[44, 32]⟩ : ByteArray)).size + t164.size ≤ 9223372036854775807) = true := decide_eq_true c112
                 try have c112b2 : (9223372036854775807 < (((⟨#[99, 111, 110, 115, 116, 32]⟩ : ByteArray) ++ t153) ++ (⟨#[44, 32]⟩ : ByteArray)).size + t164.size) = False := eq_false (Nat.not_lt.2 c112)
                 obtain rfl := Option.some.inj H
                 obtain ⟨hnb113, hnc113⟩ := nb_ NB151_152
                 have hcz114 := blk_all5 BK151.out
                 have hcz115 := blk_all5 BK152.out
                 go_wp2_with (first | ((with_reducible refine gate_callee (f := 31) rfl ?_); refine sh_call (some 149) Tryd.func31 #[.int .u64 (Go.bits .or .u64 (((a2) % 4294967296) * 4294967296) ((a1_4) % 4294967296)), .int .i64 10] ?_; (with_reducible refine (strconv_FormatUint_31.calls (Go.bits .or .u64 (((a2) % 4294967296) * 4294967296) ((a1_4) % 4294967296)) 10 t164 _ ?side1 A111.out).mono ?_); (case side1 => repeat (first | exact (Kd.C_below HRG3.out HB.out) | (with_reducible refine Kd.C_alloc ?_ _) | (with_reducible refine Kd.C_drewN ?_ _) | (with_reducible refine Kd.C_drew ?_))); rintro e w116 ⟨rfl, hb⟩; refine ⟨_, rfl, ?_⟩; replace BK151 := sh_k BK151 hb; replace BK152 := sh_k BK152 hb; replace HB := sh_b (w := w) hb; (try clear hb); (try clear hb2); (try clear hk); (try clear hi)))
                 go_ret
                 exact ⟨ret_now, b_now⟩
                ·rw [if_neg c112] at H
                 exact absurd H (by simp)
               ·rw [if_neg c110] at H
                exact absurd H (by simp)
              ·rw [if_neg c109] at H
               exact absurd H (by simp)
             ·rw [if_neg c108] at H
              obtain ⟨c108b0, c108b1⟩ := eqF c108
              by_cases c117 : a0_0 = 11
              ·rw [if_pos c117] at H
               obtain ⟨c117b0, c117b1⟩ := eqT c117
               clear c117
               by_cases c118 : 4 + t153.size ≤ 9223372036854775807
               ·rw [if_pos c118] at H
                have c118b0 := eq_true c118
                have c118b1 : decide (4 + t153.size ≤ 9223372036854775807) = true := decide_eq_true c118
                try have c118b2 : (9223372036854775807 < 4 + t153.size) = False := eq_false (Nat.not_lt.2 c118)
                by_cases c119 : ((⟨#[109, 97, 112, 32]⟩ : ByteArray) ++ t153).size + 2 ≤ 9223372036854775807
                ·rw [if_pos c119] at H
                 have c119b0 := eq_true c119
                 have c119_y0 : ((9223372036854775807 < 4 + t153.size + 2) : Prop) = False := eq_false (by have h_ := c119; simp only [ByteArray.size_append] at h_; exact Nat.not_lt.2 h_)
                 have c119_z0 : ((4 + t153.size + 2 ≤ 9223372036854775807) : Prop) = True := eq_true (by have h_ := c119; simp only [ByteArray.size_append] at h_; exact h_)
                 have c119b1 : decide (((⟨#[109, 97, 112, 32]⟩ : ByteArray) ++ t153).size + 2 ≤ 9223372036854775807) = true := decide_eq_true c119
                 try have c119b2 : (9223372036854775807 < ((⟨#[109, 97, 112, 32]⟩ : ByteArray) ++ t153).size + 2) = False := eq_false (Nat.not_lt.2 c119)
                 by_cases c120 : (((⟨#[109, 97, 112, 32]⟩ : ByteArray) ++ t153) ++ (⟨#[44, 32]⟩ : ByteArray)).size + t155.size ≤ 9223372036854775807
                 ·rw [if_pos c120] at H
                  have c120b0 := eq_true c120
                  have c120_y0 : ((9223372036854775807 < 4 + t153.size + 2 + t155.size) : Prop) = False := eq_false (by have h_ := c120; simp only [ByteArray.size_append] at h_; exact Nat.not_lt.2 h_)
                  have c120_z0 : ((4 + t153.size + 2 + t155.size ≤ 9223372036854775807) : Prop) = True := eq_true (by have h_ := c120; simp only [ByteArray.size_append] at h_; exact h_)
                  have c120b1 : decide ((((⟨#[109, 97, 112, 32]⟩ : ByteArray) ++ t153) ++ (⟨#[44, 32]⟩ : ByteArray)).size + t155.size ≤ 9223372036854775807) = true := decide_eq_true c120
                  try have c120b2 : (9223372036854775807 < (((⟨#[109, 97, 112, 32]⟩ : ByteArray) ++ t153) ++ (⟨#[44, 32]⟩ : ByteArray)).size + t155.size) = False := eq_false (Nat.not_lt.2 c120)
                  obtain rfl := Option.some.inj H
                  obtain ⟨hnb121, hnc121⟩ := nb_ NB151_152
                  have hcz122 := blk_all5 BK151.out
                  go_wp2
                  go_ret
                  exact ⟨ret_now, b_now⟩
                 ·rw [if_neg c120] at H
                  exact absurd H (by simp)
                ·rw [if_neg c119] at H
                 exact absurd H (by simp)
               ·rw [if_neg c118] at H
                exact absurd H (by simp)
              ·rw [if_neg c117] at H
               obtain ⟨c117b0, c117b1⟩ := eqF c117
               obtain rfl := Option.some.inj H
               obtain ⟨hnb123, hnc123⟩ := nb_ NB151_152
               have hcz124 := blk_all5 BK151.out
               go_wp2
               go_ret
               exact ⟨ret_now, b_now⟩

end Go.Proofs.YtondogoepcndiaaDoor.P
