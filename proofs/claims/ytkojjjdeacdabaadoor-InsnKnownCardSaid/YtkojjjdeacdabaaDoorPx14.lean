/- Made by this session's driver over the kit's printer: for each Go function a Lean function with the same answers, and a proof that the Go call comes to these answers; no conditions but the ones each theorem names. -/
import Derived.Test.YtkojjjdeacdabaaDoorPx0
import Derived.Test.YtkojjjdeacdabaaDoorPx2
import Derived.Test.YtkojjjdeacdabaaDoorPx4
import Derived.Test.YtkojjjdeacdabaaDoorPx6
namespace Go.Proofs.YtkojjjdeacdabaaDoor.P
open Go.RowKit Go.Proofs.YtkojjjdeacdabaaDoorW.PrintWords Go.Proofs.YtkojjjdeacdabaaDoorW.PrintLast Go.Proofs.YtkojjjdeacdabaaDoorW.PrintMore
attribute [local go_sem] max2_int min2_int max_two min_two max_three min_three max_four min_four   -- for this text's walks alone
set_option linter.unusedVariables false
set_option linter.unusedSimpArgs false

attribute [local go_sem high] eqA26
/-! ### insn_Make: function 21 -/
mutual
def insn_Make.j0 : Nat → Int → Int → Int → Int → Bool → Bool → Int → Int → Int → Int → Int → Option (Int × Int × Int × Int × Int × Int)
 | 0, _, _, _, _, _, _, _, _, _, _, _ => none
 | k + 1, x6, x372000, x372001, x372002, x372003, x372004, x373000, x373001, x373002, x373003, x373004 => if x372000 = 1 then (if x372003 = true then (insn_Make.j3 k x372000 x372001 x372002 x372003 x372004 (Go.bits .or .u8 (Go.bits .or .u8 (Go.bits .or .u8 ((((x372001) % 256) * 16) % 256) x6) 4) 3) x373001 x373002 x373003 x373004) else (insn_Make.j3 k x372000 x372001 x372002 x372003 x372004 (Go.bits .or .u8 (Go.bits .or .u8 ((((x372001) % 256) * 16) % 256) x6) 4) x373001 x373002 x373003 x373004)) else (if x372000 = 6 then (if x372003 = true then (insn_Make.j3 k x372000 x372001 x372002 x372003 x372004 (Go.bits .xor .u8 (Go.bits .or .u8 (Go.bits .or .u8 ((((x372001) % 256) * 16) % 256) x6) 6) 3) x373001 x373002 x373003 x373004) else (insn_Make.j3 k x372000 x372001 x372002 x372003 x372004 (Go.bits .or .u8 (Go.bits .or .u8 ((((x372001) % 256) * 16) % 256) x6) 6) x373001 x373002 x373003 x373004)) else (if x372000 = 2 then (insn_Make.j3 k x372000 x372001 x372002 x372003 x372004 215 x373001 x373002 x373003 (wrap32 (wrap64 (8 * (Go.bits .and .i64 x372002 15))))) else (if x372000 = 3 then (insn_Make.j1 k (x372000 == 3) x372000 x372001 x372002 x372003 x372004 x373000 x373001 x373002 x373003 x373004) else (if x372000 = 4 then (insn_Make.j1 k (x372000 == 4) x372000 x372001 x372002 x372003 x372004 x373000 x373001 x373002 x373003 x373004) else (insn_Make.j1 k (x372000 == 5) x372000 x372001 x372002 x372003 x372004 x373000 x373001 x373002 x373003 x373004)))))
def insn_Make.j3 : Nat → Int → Int → Int → Bool → Bool → Int → Int → Int → Int → Int → Option (Int × Int × Int × Int × Int × Int)
 | 0, _, _, _, _, _, _, _, _, _, _ => none
 | k + 1, x372000, x372001, x372002, x372003, x372004, x373000, x373001, x373002, x373003, x373004 => if (x372000 == 0 && (x372001 == 0 && (x372002 == 0 && (!x372003 && (!x372004))))) = true then (insn_Make.j4 k true x373000 x373001 x373002 x373003 x373004) else ((insn_kind.f k x373000 x373001 x373002 x373003 x373004).bind fun bt377 => (insn_Make.j4 k (!(bt377.1 == x372000) || (!(bt377.2.1 == x372001) || (!(bt377.2.2.1 == x372002) || (!(bt377.2.2.2.1 == x372003) || (!(bt377.2.2.2.2 == x372004)))))) x373000 x373001 x373002 x373003 x373004))
def insn_Make.j4 : Nat → Bool → Int → Int → Int → Int → Int → Option (Int × Int × Int × Int × Int × Int)
 | 0, _, _, _, _, _, _ => none
 | k + 1, x107, x373000, x373001, x373002, x373003, x373004 => if x107 = true then (some (0, 0, 0, 0, 0, 1)) else ((insn_Of.f k x373000 x373001 x373002 x373003 x373004).bind fun bt382 => (if bt382.2.2.2.2.2 = 0 then (some (x373000, x373001, x373002, x373003, x373004, 0)) else (some (0, 0, 0, 0, 0, bt382.2.2.2.2.2))))
def insn_Make.j1 : Nat → Bool → Int → Int → Int → Bool → Bool → Int → Int → Int → Int → Int → Option (Int × Int × Int × Int × Int × Int)
 | 0, _, _, _, _, _, _, _, _, _, _, _ => none
 | k + 1, x72, x372000, x372001, x372002, x372003, x372004, x373000, x373001, x373002, x373003, x373004 => if x72 = true then (if 0 ≤ x372000 then (if x372000 < 6 then (insn_Make.l0 k 0 x372000 x372001 x372002 x372003 x372004 (Go.bits .or .u8 96 (rdOf (0 : Int) ([0, 0, 0, 1, 3, 2] : List Int) x372000)) x373001 x373002 x373003 x373004) else (none)) else (none)) else (if 0 ≤ (mx 0 (mn x372000 11)) then (if (mx 0 (mn x372000 11)) < 12 then (if x372000 ≥ 10 then (insn_Make.j3 k x372000 x372001 x372002 x372003 x372004 (rdOf (0 : Int) ([0, 0, 0, 0, 0, 0, 0, 5, 133, 149, 24, 24] : List Int) (mx 0 (mn x372000 11))) x373001 (((mx 0 (mn x372000 12)) - 10) % 256) x373003 x373004) else (insn_Make.j3 k x372000 x372001 x372002 x372003 x372004 (rdOf (0 : Int) ([0, 0, 0, 0, 0, 0, 0, 5, 133, 149, 24, 24] : List Int) (mx 0 (mn x372000 11))) x373001 x373002 x373003 x373004)) else (none)) else (none))
def insn_Make.l0 : Nat → Int → Int → Int → Int → Bool → Bool → Int → Int → Int → Int → Int → Option (Int × Int × Int × Int × Int × Int)
 | 0, _, _, _, _, _, _, _, _, _, _, _ => none
 | k + 1, x7, x372000, x372001, x372002, x372003, x372004, x373000, x373001, x373002, x373003, x373004 => if x7 < 4 then (if 0 ≤ x7 then (if (rd gl0 x7) = x372002 then (insn_Make.l0 k (wrap64 (x7 + 1)) x372000 x372001 x372002 x372003 x372004 (Go.bits .or .u8 x373000 ((((x7) % 256) * 8) % 256)) x373001 x373002 x373003 x373004) else (insn_Make.l0 k (wrap64 (x7 + 1)) x372000 x372001 x372002 x372003 x372004 x373000 x373001 x373002 x373003 x373004)) else (none)) else (insn_Make.j3 k x372000 x372001 x372002 x372003 x372004 x373000 x373001 x373002 x373003 x373004)
end
def insn_Make.f (k : Nat) (a0_0 : Int) (a0_1 : Int) (a0_2 : Int) (a0_3 : Bool) (a0_4 : Bool) (a1_0 : Int) (a1_1 : Int) (a1_2 : Int) (a1_3 : Int) (a1_4 : Int) : Option (Int × Int × Int × Int × Int × Int) := if a0_4 = true then (insn_Make.j0 k 8 a0_0 a0_1 a0_2 a0_3 a0_4 a1_0 a1_1 a1_2 a1_3 a1_4) else (insn_Make.j0 k 0 a0_0 a0_1 a0_2 a0_3 a0_4 a1_0 a1_1 a1_2 a1_3 a1_4)
theorem insn_Make.mono_l : ∀ k, (∀ y0 y1 y2 y3 y4 y5 y6 y7 y8 y9 y10, LeO (insn_Make.j0 k y0 y1 y2 y3 y4 y5 y6 y7 y8 y9 y10) (insn_Make.j0 (k + 1) y0 y1 y2 y3 y4 y5 y6 y7 y8 y9 y10)) ∧ (∀ y0 y1 y2 y3 y4 y5 y6 y7 y8 y9, LeO (insn_Make.j3 k y0 y1 y2 y3 y4 y5 y6 y7 y8 y9) (insn_Make.j3 (k + 1) y0 y1 y2 y3 y4 y5 y6 y7 y8 y9)) ∧ (∀ y0 y1 y2 y3 y4 y5, LeO (insn_Make.j4 k y0 y1 y2 y3 y4 y5) (insn_Make.j4 (k + 1) y0 y1 y2 y3 y4 y5)) ∧ (∀ y0 y1 y2 y3 y4 y5 y6 y7 y8 y9 y10, LeO (insn_Make.j1 k y0 y1 y2 y3 y4 y5 y6 y7 y8 y9 y10) (insn_Make.j1 (k + 1) y0 y1 y2 y3 y4 y5 y6 y7 y8 y9 y10)) ∧ (∀ y0 y1 y2 y3 y4 y5 y6 y7 y8 y9 y10, LeO (insn_Make.l0 k y0 y1 y2 y3 y4 y5 y6 y7 y8 y9 y10) (insn_Make.l0 (k + 1) y0 y1 y2 y3 y4 y5 y6 y7 y8 y9 y10))
 | 0 => ⟨fun _ _ _ _ _ _ _ _ _ _ _ r h => by simp [insn_Make.j0] at h, fun _ _ _ _ _ _ _ _ _ _ r h => by simp [insn_Make.j3] at h, fun _ _ _ _ _ _ r h => by simp [insn_Make.j4] at h, fun _ _ _ _ _ _ _ _ _ _ _ r h => by simp [insn_Make.j1] at h, fun _ _ _ _ _ _ _ _ _ _ _ r h => by simp [insn_Make.l0] at h⟩
 | k + 1 => by
  obtain ⟨ih0, ih1, ih2, ih3, ih4⟩ := insn_Make.mono_l k
  refine ⟨?_, ?_, ?_, ?_, ?_⟩
  ·intro y0 y1 y2 y3 y4 y5 y6 y7 y8 y9 y10
   unfold insn_Make.j0
   repeat' first
   | (with_reducible exact ih0 _ _ _ _ _ _ _ _ _ _ _)
   | (with_reducible exact ih1 _ _ _ _ _ _ _ _ _ _)
   | (with_reducible exact ih2 _ _ _ _ _ _)
   | (with_reducible exact ih3 _ _ _ _ _ _ _ _ _ _ _)
   | (with_reducible exact ih4 _ _ _ _ _ _ _ _ _ _ _)
   | (with_reducible exact insn_Of.mono _ _ _ _ _ _)
   | (with_reducible exact insn_kind.mono _ _ _ _ _ _)
   | (with_reducible exact LeO.refl _)
   | (with_reducible exact LeO.none _)
   | (with_reducible refine LeO.ite ?_ ?_)
   | (with_reducible refine LeO.bind ?_ (fun _ => ?_))
   | exact ih0 _ _ _ _ _ _ _ _ _ _ _
   | exact ih1 _ _ _ _ _ _ _ _ _ _
   | exact ih2 _ _ _ _ _ _
   | exact ih3 _ _ _ _ _ _ _ _ _ _ _
   | exact ih4 _ _ _ _ _ _ _ _ _ _ _
   | exact insn_Of.mono _ _ _ _ _ _
   | exact insn_kind.mono _ _ _ _ _ _
   | exact LeO.none _
   | refine LeO.ite ?_ ?_
   | refine LeO.bind ?_ (fun _ => ?_)
  ·intro y0 y1 y2 y3 y4 y5 y6 y7 y8 y9
   unfold insn_Make.j3
   repeat' first
   | (with_reducible exact ih0 _ _ _ _ _ _ _ _ _ _ _)
   | (with_reducible exact ih1 _ _ _ _ _ _ _ _ _ _)
   | (with_reducible exact ih2 _ _ _ _ _ _)
   | (with_reducible exact ih3 _ _ _ _ _ _ _ _ _ _ _)
   | (with_reducible exact ih4 _ _ _ _ _ _ _ _ _ _ _)
   | (with_reducible exact insn_Of.mono _ _ _ _ _ _)
   | (with_reducible exact insn_kind.mono _ _ _ _ _ _)
   | (with_reducible exact LeO.refl _)
   | (with_reducible exact LeO.none _)
   | (with_reducible refine LeO.ite ?_ ?_)
   | (with_reducible refine LeO.bind ?_ (fun _ => ?_))
   | exact ih0 _ _ _ _ _ _ _ _ _ _ _
   | exact ih1 _ _ _ _ _ _ _ _ _ _
   | exact ih2 _ _ _ _ _ _
   | exact ih3 _ _ _ _ _ _ _ _ _ _ _
   | exact ih4 _ _ _ _ _ _ _ _ _ _ _
   | exact insn_Of.mono _ _ _ _ _ _
   | exact insn_kind.mono _ _ _ _ _ _
   | exact LeO.none _
   | refine LeO.ite ?_ ?_
   | refine LeO.bind ?_ (fun _ => ?_)
  ·intro y0 y1 y2 y3 y4 y5
   unfold insn_Make.j4
   repeat' first
   | (with_reducible exact ih0 _ _ _ _ _ _ _ _ _ _ _)
   | (with_reducible exact ih1 _ _ _ _ _ _ _ _ _ _)
   | (with_reducible exact ih2 _ _ _ _ _ _)
   | (with_reducible exact ih3 _ _ _ _ _ _ _ _ _ _ _)
   | (with_reducible exact ih4 _ _ _ _ _ _ _ _ _ _ _)
   | (with_reducible exact insn_Of.mono _ _ _ _ _ _)
   | (with_reducible exact insn_kind.mono _ _ _ _ _ _)
   | (with_reducible exact LeO.refl _)
   | (with_reducible exact LeO.none _)
   | (with_reducible refine LeO.ite ?_ ?_)
   | (with_reducible refine LeO.bind ?_ (fun _ => ?_))
   | exact ih0 _ _ _ _ _ _ _ _ _ _ _
   | exact ih1 _ _ _ _ _ _ _ _ _ _
   | exact ih2 _ _ _ _ _ _
   | exact ih3 _ _ _ _ _ _ _ _ _ _ _
   | exact ih4 _ _ _ _ _ _ _ _ _ _ _
   | exact insn_Of.mono _ _ _ _ _ _
   | exact insn_kind.mono _ _ _ _ _ _
   | exact LeO.none _
   | refine LeO.ite ?_ ?_
   | refine LeO.bind ?_ (fun _ => ?_)
  ·intro y0 y1 y2 y3 y4 y5 y6 y7 y8 y9 y10
   unfold insn_Make.j1
   repeat' first
   | (with_reducible exact ih0 _ _ _ _ _ _ _ _ _ _ _)
   | (with_reducible exact ih1 _ _ _ _ _ _ _ _ _ _)
   | (with_reducible exact ih2 _ _ _ _ _ _)
   | (with_reducible exact ih3 _ _ _ _ _ _ _ _ _ _ _)
   | (with_reducible exact ih4 _ _ _ _ _ _ _ _ _ _ _)
   | (with_reducible exact insn_Of.mono _ _ _ _ _ _)
   | (with_reducible exact insn_kind.mono _ _ _ _ _ _)
   | (with_reducible exact LeO.refl _)
   | (with_reducible exact LeO.none _)
   | (with_reducible refine LeO.ite ?_ ?_)
   | (with_reducible refine LeO.bind ?_ (fun _ => ?_))
   | exact ih0 _ _ _ _ _ _ _ _ _ _ _
   | exact ih1 _ _ _ _ _ _ _ _ _ _
   | exact ih2 _ _ _ _ _ _
   | exact ih3 _ _ _ _ _ _ _ _ _ _ _
   | exact ih4 _ _ _ _ _ _ _ _ _ _ _
   | exact insn_Of.mono _ _ _ _ _ _
   | exact insn_kind.mono _ _ _ _ _ _
   | exact LeO.none _
   | refine LeO.ite ?_ ?_
   | refine LeO.bind ?_ (fun _ => ?_)
  ·intro y0 y1 y2 y3 y4 y5 y6 y7 y8 y9 y10
   unfold insn_Make.l0
   repeat' first
   | (with_reducible exact ih0 _ _ _ _ _ _ _ _ _ _ _)
   | (with_reducible exact ih1 _ _ _ _ _ _ _ _ _ _)
   | (with_reducible exact ih2 _ _ _ _ _ _)
   | (with_reducible exact ih3 _ _ _ _ _ _ _ _ _ _ _)
   | (with_reducible exact ih4 _ _ _ _ _ _ _ _ _ _ _)
   | (with_reducible exact insn_Of.mono _ _ _ _ _ _)
   | (with_reducible exact insn_kind.mono _ _ _ _ _ _)
   | (with_reducible exact LeO.refl _)
   | (with_reducible exact LeO.none _)
   | (with_reducible refine LeO.ite ?_ ?_)
   | (with_reducible refine LeO.bind ?_ (fun _ => ?_))
   | exact ih0 _ _ _ _ _ _ _ _ _ _ _
   | exact ih1 _ _ _ _ _ _ _ _ _ _
   | exact ih2 _ _ _ _ _ _
   | exact ih3 _ _ _ _ _ _ _ _ _ _ _
   | exact ih4 _ _ _ _ _ _ _ _ _ _ _
   | exact insn_Of.mono _ _ _ _ _ _
   | exact insn_kind.mono _ _ _ _ _ _
   | exact LeO.none _
   | refine LeO.ite ?_ ?_
   | refine LeO.bind ?_ (fun _ => ?_)
theorem insn_Make.mono : ∀ a0 a1 a2 a3 a4 a5 a6 a7 a8 a9 k, LeO (insn_Make.f k a0 a1 a2 a3 a4 a5 a6 a7 a8 a9) (insn_Make.f (k + 1) a0 a1 a2 a3 a4 a5 a6 a7 a8 a9) := by
 intro a0 a1 a2 a3 a4 a5 a6 a7 a8 a9 k
 obtain ⟨ih0, ih1, ih2, ih3, ih4⟩ := insn_Make.mono_l k
 unfold insn_Make.f
 repeat' first
   | (with_reducible exact ih0 _ _ _ _ _ _ _ _ _ _ _)
   | (with_reducible exact ih1 _ _ _ _ _ _ _ _ _ _)
   | (with_reducible exact ih2 _ _ _ _ _ _)
   | (with_reducible exact ih3 _ _ _ _ _ _ _ _ _ _ _)
   | (with_reducible exact ih4 _ _ _ _ _ _ _ _ _ _ _)
   | (with_reducible exact insn_Of.mono _ _ _ _ _ _)
   | (with_reducible exact insn_kind.mono _ _ _ _ _ _)
   | (with_reducible exact LeO.refl _)
   | (with_reducible exact LeO.none _)
   | (with_reducible refine LeO.ite ?_ ?_)
   | (with_reducible refine LeO.bind ?_ (fun _ => ?_))
   | exact ih0 _ _ _ _ _ _ _ _ _ _ _
   | exact ih1 _ _ _ _ _ _ _ _ _ _
   | exact ih2 _ _ _ _ _ _
   | exact ih3 _ _ _ _ _ _ _ _ _ _ _
   | exact ih4 _ _ _ _ _ _ _ _ _ _ _
   | exact insn_Of.mono _ _ _ _ _ _
   | exact insn_kind.mono _ _ _ _ _ _
   | exact LeO.none _
   | refine LeO.ite ?_ ?_
   | refine LeO.bind ?_ (fun _ => ?_)
def insn_Make.T28 : Bool × List (List Nat × List Nat) := (true, [([], []), ([], []), ([0, 1], [0, 1]), ([2], [2]), ([3], [3]), ([4, 3, 3], [3, 4]), ([3], [3]), ([5, 6, 3], [3, 5, 6]), ([3, 7], [3, 7])])
def insn_Make.B28 : List Nat := [0, 0, 3, 7, 15, 31, 15, 127, 255]
theorem insn_Make.tab28 : rtab .any (opsOf Tryd.f21 28) = insn_Make.T28 := by kernel_rfl
theorem insn_Make.bits28 : waitsOk insn_Make.T28.2 insn_Make.B28 = true := by kernel_rfl
set_option maxHeartbeats 8000000 in
set_option maxRecDepth 100000 in
theorem insn_Make.calls (k : Nat) (a0_0 : Int) (a0_1 : Int) (a0_2 : Int) (a0_3 : Bool) (a0_4 : Bool) (a1_0 : Int) (a1_1 : Int) (a1_2 : Int) (a1_3 : Int) (a1_4 : Int) (r1 : Int) (r2 : Int) (r3 : Int) (r4 : Int) (r5 : Int) (r6 : Int) (w : World) (hrG0 : Kd.C (Kd.int .i64) w (some ⟨0, 0, none⟩) gl0.length gl0) (h : insn_Make.f k a0_0 a0_1 a0_2 a0_3 a0_4 a1_0 a1_1 a1_2 a1_3 a1_4 = some (r1, r2, r3, r4, r5, r6)) :
  Calls Tryd.prog 21 #[.agg #[.int .i64 a0_0, .int .i64 a0_1, .int .i64 a0_2, .bool a0_3, .bool a0_4], .agg #[.int .u8 a1_0, .int .u8 a1_1, .int .u8 a1_2, .int .i16 a1_3, .int .i32 a1_4]] w fun e w' => e = .returned (.tuple #[.agg #[.int .u8 r1, .int .u8 r2, .int .u8 r3, .int .i16 r4, .int .i32 r5], .int .i64 r6]) ∧ Below w.heap.size w w' := by
 have hu26 := Tryd.underlying26
 have hu24 := Tryd.underlying24
 have HRG0 := Aside0.mk hrG0
 clear hrG0
 have HB := Aside0.mk (Below.refl w.heap.size w)
 have H : (if a0_4 = true then (insn_Make.j0 k 8 a0_0 a0_1 a0_2 a0_3 a0_4 a1_0 a1_1 a1_2 a1_3 a1_4) else (insn_Make.j0 k 0 a0_0 a0_1 a0_2 a0_3 a0_4 a1_0 a1_1 a1_2 a1_3 a1_4)) = some (r1, r2, r3, r4, r5, r6) := h
 clear h
 have HC3 := Aside0.mk H
 clear H
 go_enter Tryd.func21, Tryd.ntmps21
 go_upto_if 11 with (first | ((with_reducible refine gate_dst (N := 2) rfl ?_); refine sh_box 2 #[.int .i64 a0_0, .int .i64 a0_1, .int .i64 a0_2, .bool a0_3, .bool a0_4] 26 ?_; intro gb371 hg w4 hbox hb; have GE371 := sh_z (w := w) hg; replace HB := sh_b (w := w) hb; have BK371 := Aside0.mk (hbox); clear hb hbox hg) | ((with_reducible refine gate_dst (N := 3) rfl ?_); refine sh_box 3 #[.int .u8 a1_0, .int .u8 a1_1, .int .u8 a1_2, .int .i16 a1_3, .int .i32 a1_4] 24 ?_; intro gb372 hg w5 hbox hb; have GE372 := sh_z (w := w) hg; have NB371_372 := sh_n BK371 hg; have NB372_371 := sh_s NB371_372; replace BK371 := sh_k BK371 hb; replace HB := sh_b (w := w) hb; have BK372 := Aside0.mk (hbox); clear hb hbox hg) | ((with_reducible refine gate_dst (N := 4) rfl ?_); refine sh_box 4 #[.int .u8 0, .int .u8 0, .int .u8 0, .int .i16 0, .int .i32 0] 24 ?_; intro gb373 hg w6 hbox hb; have GE373 := sh_z (w := w) hg; have NB371_373 := sh_n BK371 hg; have NB372_373 := sh_n BK372 hg; have NB373_371 := sh_s NB371_373; have NB373_372 := sh_s NB372_373; replace BK371 := sh_k BK371 hb; replace BK372 := sh_k BK372 hb; replace HB := sh_b (w := w) hb; have BK373 := Aside0.mk (hbox); clear hb hbox hg; have hnb7 := NB371_372.out; have hnc7 := NB372_371.out; have hnb8 := NB371_373.out; have hnc8 := NB373_371.out; have hcz9 := blk_all5 BK371.out))
 (try simp only [Act.put, List.setIfInBounds_toArray, List.set_cons_zero, List.set_cons_succ])
 go_cut [6] (fun v6 wc => ∃ (kq : Nat) (x6_2 : Int), v6 = .int .u8 x6_2 ∧ Aside0 (insn_Make.j0 kq x6_2 a0_0 a0_1 a0_2 a0_3 a0_4 a1_0 a1_1 a1_2 a1_3 a1_4 = some (r1, r2, r3, r4, r5, r6)) ∧ Aside0 (kq ≤ k) ∧ Aside0 (wc.heap[gb371]? = some (.cells #[.int .i64 a0_0, .int .i64 a0_1, .int .i64 a0_2, .bool a0_3, .bool a0_4] 26 (0, 0))) ∧ Aside0 (wc.heap[gb372]? = some (.cells #[.int .u8 a1_0, .int .u8 a1_1, .int .u8 a1_2, .int .i16 a1_3, .int .i32 a1_4] 24 (0, 0))) ∧ Aside0 (wc.heap[gb373]? = some (.cells #[.int .u8 0, .int .u8 0, .int .u8 0, .int .i16 0, .int .i32 0] 24 (0, 0))) ∧ Aside0 (Below w.heap.size w wc))
 case first =>
  have H := HC3.out
  clear HC3
  by_cases c10 : a0_4 = true
  ·subst c10
   replace H := sh_t H
   have H' := Aside0.mk H
   clear H
   go_wp2
   go_meet
   case rel => exact ⟨_, (8), eq_now, H', ⟨by first | omega | exact Nat.le_refl _⟩, ⟨bk_now⟩, ⟨bk_now⟩, ⟨bk_now⟩, ⟨b_now⟩⟩
  ·replace c10 := Bool.eq_false_iff.mpr c10
   subst c10
   replace H := sh_f H
   have H' := Aside0.mk H
   clear H
   go_wp2
   go_meet
   case rel => exact ⟨_, (0), eq_now, H', ⟨by first | omega | exact Nat.le_refl _⟩, ⟨bk_now⟩, ⟨bk_now⟩, ⟨bk_now⟩, ⟨b_now⟩⟩
 case rest =>
  clear HC3
  try clear c1
  try clear c2
  try clear p2
  try clear c7
  try clear c8
  try clear c10
  try clear hcz9
  obtain ⟨kq, x6_2, rfl, HA, HJ2, BK371, BK372, BK373, HB⟩ := hcut
  cases kq with
  | zero => exact absurd HA.out (by simp [insn_Make.j0])
  | succ kj2 =>
   have H := HA.out
   clear HA
   simp only [insn_Make.j0] at H
   have HC11 := Aside0.mk H
   clear H
   have hnb12 := NB371_372.out
   have hnc12 := NB372_371.out
   have hnb13 := NB371_373.out
   have hnc13 := NB373_371.out
   have hcz14 := blk_all5 BK371.out
   go_upto_block 0 with (fail)
   go_cut [] (fun wc => ∃ (kq : Nat) (x373000_10 : Int) (x373002_10 : Int) (x373004_10 : Int), Aside0 (insn_Make.j3 kq a0_0 a0_1 a0_2 a0_3 a0_4 x373000_10 a1_1 x373002_10 a1_3 x373004_10 = some (r1, r2, r3, r4, r5, r6)) ∧ Aside0 (kq ≤ kj2) ∧ Aside0 (wc.heap[gb371]? = some (.cells #[.int .i64 a0_0, .int .i64 a0_1, .int .i64 a0_2, .bool a0_3, .bool a0_4] 26 (0, 0))) ∧ Aside0 (wc.heap[gb372]? = some (.cells #[.int .u8 x373000_10, .int .u8 a1_1, .int .u8 x373002_10, .int .i16 a1_3, .int .i32 x373004_10] 24 (0, 0))) ∧ Aside0 (wc.heap[gb373]? = some (.cells #[.int .u8 0, .int .u8 0, .int .u8 0, .int .i16 0, .int .i32 0] 24 (0, 0))) ∧ Aside0 (Below w.heap.size w wc))
   case first =>
    have H := HC11.out
    clear HC11
    by_cases c15 : a0_0 = 1
    ·rw [if_pos c15] at H
     have c15b0 : (a0_0 == 1) = true := beq_iff_eq.mpr c15
     have c15b1 : (a0_0 != 1) = false := bne_eq_false_iff_eq.mpr c15
     clear c15
     (first | rw [c15b0] | (simp only [i64_w, i32_w]; rw [c15b0]) | skip)
     by_cases c16 : a0_3 = true
     ·subst c16
      replace H := sh_t H
      have H' := Aside0.mk H
      clear H
      have hnb17 := NB371_372.out
      have hnc17 := NB372_371.out
      have hnb18 := NB371_373.out
      have hnc18 := NB373_371.out
      have hcz19 := blk_all5 BK371.out
      have hnb20 := NB372_373.out
      have hnc20 := NB373_372.out
      have hcz21 := blk_all5 BK372.out
      go_wp2
      go_meet
      case rel => exact ⟨_, (Go.bits .or .u8 (Go.bits .or .u8 (Go.bits .or .u8 ((((a0_1) % 256) * 16) % 256) x6_2) 4) 3), (a1_2), (a1_4), H', ⟨by have := HJ2.out; first | omega | exact Nat.le_refl _⟩, ⟨bk_now⟩, ⟨bk_now⟩, ⟨bk_now⟩, ⟨b_now⟩⟩
     ·replace c16 := Bool.eq_false_iff.mpr c16
      subst c16
      replace H := sh_f H
      have H' := Aside0.mk H
      clear H
      have hnb22 := NB371_372.out
      have hnc22 := NB372_371.out
      have hnb23 := NB371_373.out
      have hnc23 := NB373_371.out
      have hcz24 := blk_all5 BK371.out
      have hnb25 := NB372_373.out
      have hnc25 := NB373_372.out
      have hcz26 := blk_all5 BK372.out
      go_wp2
      go_meet
      case rel => exact ⟨_, (Go.bits .or .u8 (Go.bits .or .u8 ((((a0_1) % 256) * 16) % 256) x6_2) 4), (a1_2), (a1_4), H', ⟨by have := HJ2.out; first | omega | exact Nat.le_refl _⟩, ⟨bk_now⟩, ⟨bk_now⟩, ⟨bk_now⟩, ⟨b_now⟩⟩
    ·rw [if_neg c15] at H
     have c15b0 : (a0_0 == 1) = false := beq_eq_false_iff_ne.mpr c15
     have c15b1 : (a0_0 != 1) = true := bne_iff_ne.mpr c15
     (first | rw [c15b0] | (simp only [i64_w, i32_w]; rw [c15b0]) | skip)
     by_cases c27 : a0_0 = 6
     ·rw [if_pos c27] at H
      have c27b0 : (a0_0 == 6) = true := beq_iff_eq.mpr c27
      have c27b1 : (a0_0 != 6) = false := bne_eq_false_iff_eq.mpr c27
      clear c27
      by_cases c28 : a0_3 = true
      ·subst c28
       replace H := sh_t H
       have H' := Aside0.mk H
       clear H
       have hnb29 := NB371_372.out
       have hnc29 := NB372_371.out
       have hnb30 := NB371_373.out
       have hnc30 := NB373_371.out
       have hcz31 := blk_all5 BK371.out
       have hnb32 := NB372_373.out
       have hnc32 := NB373_372.out
       have hcz33 := blk_all5 BK372.out
       go_wp2
       go_meet
       case rel => exact ⟨_, (Go.bits .xor .u8 (Go.bits .or .u8 (Go.bits .or .u8 ((((a0_1) % 256) * 16) % 256) x6_2) 6) 3), (a1_2), (a1_4), H', ⟨by have := HJ2.out; first | omega | exact Nat.le_refl _⟩, ⟨bk_now⟩, ⟨bk_now⟩, ⟨bk_now⟩, ⟨b_now⟩⟩
      ·replace c28 := Bool.eq_false_iff.mpr c28
       subst c28
       replace H := sh_f H
       have H' := Aside0.mk H
       clear H
       have hnb34 := NB371_372.out
       have hnc34 := NB372_371.out
       have hnb35 := NB371_373.out
       have hnc35 := NB373_371.out
       have hcz36 := blk_all5 BK371.out
       have hnb37 := NB372_373.out
       have hnc37 := NB373_372.out
       have hcz38 := blk_all5 BK372.out
       go_wp2
       go_meet
       case rel => exact ⟨_, (Go.bits .or .u8 (Go.bits .or .u8 ((((a0_1) % 256) * 16) % 256) x6_2) 6), (a1_2), (a1_4), H', ⟨by have := HJ2.out; first | omega | exact Nat.le_refl _⟩, ⟨bk_now⟩, ⟨bk_now⟩, ⟨bk_now⟩, ⟨b_now⟩⟩
     ·rw [if_neg c27] at H
      have c27b0 : (a0_0 == 6) = false := beq_eq_false_iff_ne.mpr c27
      have c27b1 : (a0_0 != 6) = true := bne_iff_ne.mpr c27
      by_cases c39 : a0_0 = 2
      ·rw [if_pos c39] at H
       have c39b0 : (a0_0 == 2) = true := beq_iff_eq.mpr c39
       have c39b1 : (a0_0 != 2) = false := bne_eq_false_iff_eq.mpr c39
       clear c39
       have H' := Aside0.mk H
       clear H
       have hnb40 := NB372_371.out
       have hnc40 := NB371_372.out
       have hnb41 := NB372_373.out
       have hnc41 := NB373_372.out
       have hcz42 := blk_all5 BK372.out
       have hnb43 := NB371_373.out
       have hnc43 := NB373_371.out
       have hcz44 := blk_all5 BK371.out
       go_wp2
       go_meet
       case rel => exact ⟨_, (215), (a1_2), (wrap32 (wrap64 (8 * (Go.bits .and .i64 a0_2 15)))), H', ⟨by have := HJ2.out; first | omega | exact Nat.le_refl _⟩, ⟨bk_now⟩, ⟨bk_now⟩, ⟨bk_now⟩, ⟨b_now⟩⟩
      ·rw [if_neg c39] at H
       have c39b0 : (a0_0 == 2) = false := beq_eq_false_iff_ne.mpr c39
       have c39b1 : (a0_0 != 2) = true := bne_iff_ne.mpr c39
       have HC45 := Aside0.mk H
       clear H
       go_upto_if 72 with (fail)
       go_cut [72] (fun v72 wc => ∃ (kq : Nat) (x72_44 : Bool), v72 = .bool x72_44 ∧ Aside0 (insn_Make.j1 kq x72_44 a0_0 a0_1 a0_2 a0_3 a0_4 a1_0 a1_1 a1_2 a1_3 a1_4 = some (r1, r2, r3, r4, r5, r6)) ∧ Aside0 (kq ≤ kj2) ∧ Aside0 (wc.heap[gb371]? = some (.cells #[.int .i64 a0_0, .int .i64 a0_1, .int .i64 a0_2, .bool a0_3, .bool a0_4] 26 (0, 0))) ∧ Aside0 (wc.heap[gb372]? = some (.cells #[.int .u8 a1_0, .int .u8 a1_1, .int .u8 a1_2, .int .i16 a1_3, .int .i32 a1_4] 24 (0, 0))) ∧ Aside0 (wc.heap[gb373]? = some (.cells #[.int .u8 0, .int .u8 0, .int .u8 0, .int .i16 0, .int .i32 0] 24 (0, 0))) ∧ Aside0 (Below w.heap.size w wc))
       case first =>
        have H := HC45.out
        clear HC45
        by_cases c46 : a0_0 = 3
        ·rw [if_pos c46] at H
         have c46b0 : (a0_0 == 3) = true := beq_iff_eq.mpr c46
         have c46b1 : (a0_0 != 3) = false := bne_eq_false_iff_eq.mpr c46
         clear c46
         (first | rw [c46b0] | (simp only [i64_w, i32_w]; rw [c46b0]) | skip)
         have H' := Aside0.mk H
         clear H
         go_wp2
         go_meet
         case rel => exact ⟨_, ((a0_0 == 3)), eq_now, H', ⟨by have := HJ2.out; first | omega | exact Nat.le_refl _⟩, ⟨bk_now⟩, ⟨bk_now⟩, ⟨bk_now⟩, ⟨b_now⟩⟩
        ·rw [if_neg c46] at H
         have c46b0 : (a0_0 == 3) = false := beq_eq_false_iff_ne.mpr c46
         have c46b1 : (a0_0 != 3) = true := bne_iff_ne.mpr c46
         (first | rw [c46b0] | (simp only [i64_w, i32_w]; rw [c46b0]) | skip)
         by_cases c47 : a0_0 = 4
         ·rw [if_pos c47] at H
          have c47b0 : (a0_0 == 4) = true := beq_iff_eq.mpr c47
          have c47b1 : (a0_0 != 4) = false := bne_eq_false_iff_eq.mpr c47
          clear c47
          have H' := Aside0.mk H
          clear H
          go_wp2
          go_meet
          case rel => exact ⟨_, ((a0_0 == 4)), eq_now, H', ⟨by have := HJ2.out; first | omega | exact Nat.le_refl _⟩, ⟨bk_now⟩, ⟨bk_now⟩, ⟨bk_now⟩, ⟨b_now⟩⟩
         ·rw [if_neg c47] at H
          have c47b0 : (a0_0 == 4) = false := beq_eq_false_iff_ne.mpr c47
          have c47b1 : (a0_0 != 4) = true := bne_iff_ne.mpr c47
          have H' := Aside0.mk H
          clear H
          go_wp2
          go_meet
          case rel => exact ⟨_, ((a0_0 == 5)), eq_now, H', ⟨by have := HJ2.out; first | omega | exact Nat.le_refl _⟩, ⟨bk_now⟩, ⟨bk_now⟩, ⟨bk_now⟩, ⟨b_now⟩⟩
       case rest =>
        clear HC45
        try clear c1
        try clear c2
        try clear p2
        try clear c3
        try clear p3
        try clear c4
        try clear p6
        try clear c7
        try clear c8
        try clear c10
        try clear c12
        try clear c13
        try clear c15
        try clear c15b0
        try clear c15b1
        try clear c16
        try clear c17
        try clear c18
        try clear c20
        try clear c21
        try clear c22
        try clear c23
        try clear c25
        try clear c27
        try clear c27b0
        try clear c27b1
        try clear c28
        try clear c29
        try clear c30
        try clear c32
        try clear p32
        try clear c34
        try clear c35
        try clear c37
        try clear c39
        try clear c39b0
        try clear c39b1
        try clear c40
        try clear c41
        try clear c43
        try clear c46
        try clear c46b0
        try clear c46b1
        try clear c47
        try clear c47b0
        try clear c47b1
        try clear hcz14
        try clear hcz19
        try clear hcz21
        try clear hcz24
        try clear hcz26
        try clear hcz31
        try clear hcz33
        try clear hcz36
        try clear hcz38
        try clear hcz42
        try clear hcz44
        try clear hcz9
        try clear p2
        obtain ⟨kq, x72_44, rfl, HA, HJ44, BK371, BK372, BK373, HB⟩ := hcut
        cases kq with
        | zero => exact absurd HA.out (by simp [insn_Make.j1])
        | succ kj44 =>
         have H := HA.out
         clear HA
         simp only [insn_Make.j1] at H
         by_cases c48 : x72_44 = true
         ·subst c48
          replace H := sh_t H
          by_cases c49 : 0 ≤ a0_0
          ·rw [if_pos c49] at H
           have c49b0 : decide (0 ≤ a0_0) = true := decide_eq_true c49
           clear c49
           by_cases c50 : a0_0 < 6
           ·rw [if_pos c50] at H
            have c50b0 : decide (a0_0 < 6) = true := decide_eq_true c50
            clear c50
            obtain ⟨i374_, hi374_, _⟩ := Option.map_eq_some_iff.1 (show (Tryd.prog.info? 5).map (fun i => i.size) = some 1 by kernel_rfl)
            have ix374 : ∀ W_ : World, (Instr.index 72 (.agg #[.int .u8 0, .int .u8 0, .int .u8 0, .int .u8 1, .int .u8 3, .int .u8 2]) (.int .i64 a0_0)).run Tryd.prog W_ = .ok (.int .u8 (rdOf (0 : Int) ([0, 0, 0, 1, 3, 2] : List Int) a0_0)) W_ := fun W_ => run_index_enc (Value.int .u8) (0 : Int) ([0, 0, 0, 1, 3, 2] : List Int) a0_0 W_ Tryd.underlying72 (fun W_ => by kernel_rfl) hi374_ (by kernel_rfl) (by first | omega | exact of_decide_eq_true (by first | (with_reducible assumption) | assumption)) (by first | omega | exact of_decide_eq_true (by first | (with_reducible assumption) | assumption)) rfl
            clear hi374_
            have H' := Aside0.mk H
            clear H
            have hnb51 := NB371_372.out
            have hnc51 := NB372_371.out
            have hnb52 := NB371_373.out
            have hnc52 := NB373_371.out
            have hcz53 := blk_all5 BK371.out
            have hnb54 := NB372_373.out
            have hnc54 := NB373_372.out
            have hcz55 := blk_all5 BK372.out
            go_wp2
            go_loopg [7] kj44 (fun kq v7 w' => ∃ (x7_3 : Int) (x373000_3 : Int), v7 = .int .i64 x7_3 ∧ Aside0 (insn_Make.l0 kq x7_3 a0_0 a0_1 a0_2 a0_3 a0_4 x373000_3 a1_1 a1_2 a1_3 a1_4 = some (r1, r2, r3, r4, r5, r6)) ∧ Aside0 (kq ≤ kj44) ∧ Aside0 (w'.heap[gb371]? = some (.cells #[.int .i64 a0_0, .int .i64 a0_1, .int .i64 a0_2, .bool a0_3, .bool a0_4] 26 (0, 0))) ∧ Aside0 (w'.heap[gb372]? = some (.cells #[.int .u8 x373000_3, .int .u8 a1_1, .int .u8 a1_2, .int .i16 a1_3, .int .i32 a1_4] 24 (0, 0))) ∧ Aside0 (w'.heap[gb373]? = some (.cells #[.int .u8 0, .int .u8 0, .int .u8 0, .int .i16 0, .int .i32 0] 24 (0, 0))) ∧ Aside0 (Below w.heap.size w w'))
            case atStart => exact ⟨(0), (Go.bits .or .u8 96 (rdOf (0 : Int) ([0, 0, 0, 1, 3, 2] : List Int) a0_0)), eq_now, H', ⟨Nat.le_refl _⟩, ⟨bk_now⟩, ⟨bk_now⟩, ⟨bk_now⟩, ⟨b_now⟩⟩
            case round =>
             clear H'
             try clear c1
             try clear c2
             try clear p2
             try clear c3
             try clear p3
             try clear c4
             try clear c5
             try clear p6
             try clear c7
             try clear c8
             try clear c10
             try clear c12
             try clear c13
             try clear c15
             try clear c15b0
             try clear c15b1
             try clear c16
             try clear c17
             try clear c18
             try clear c20
             try clear c21
             try clear c22
             try clear c23
             try clear c25
             try clear c27
             try clear c27b0
             try clear c27b1
             try clear c28
             try clear c29
             try clear c30
             try clear c32
             try clear p32
             try clear c34
             try clear c35
             try clear c37
             try clear c39
             try clear c39b0
             try clear c39b1
             try clear c40
             try clear c41
             try clear c43
             try clear c46
             try clear c46b0
             try clear c46b1
             try clear c47
             try clear c47b0
             try clear c47b1
             try clear c48
             try clear c49
             try clear c49b0
             try clear c50
             try clear c50b0
             try clear c51
             try clear c52
             try clear c54
             try clear hcz14
             try clear hcz19
             try clear hcz21
             try clear hcz24
             try clear hcz26
             try clear hcz31
             try clear hcz33
             try clear hcz36
             try clear hcz38
             try clear hcz42
             try clear hcz44
             try clear hcz53
             try clear hcz55
             try clear hcz9
             try clear p2
             try clear p3
             try clear p32
             try clear p6
             obtain ⟨x7_3, x373000_3, rfl, HA, HK3, BK371, BK372, BK373, HB⟩ := hrel
             cases gk with
             | zero => exact absurd HA.out (by simp [insn_Make.l0])
             | succ k3 =>
              have H := HA.out
              clear HA
              simp only [insn_Make.l0] at H
              by_cases c56 : x7_3 < 4
              ·rw [if_pos c56] at H
               have c56b0 : decide (x7_3 < 4) = true := decide_eq_true c56
               clear c56
               by_cases c57 : 0 ≤ x7_3
               ·rw [if_pos c57] at H
                have c57b0 : decide (0 ≤ x7_3) = true := decide_eq_true c57
                clear c57
                by_cases c58 : (rd gl0 x7_3) = a0_2
                ·rw [if_pos c58] at H
                 have c58b0 : ((rd gl0 x7_3) == a0_2) = true := beq_iff_eq.mpr c58
                 have c58b1 : ((rd gl0 x7_3) != a0_2) = false := bne_eq_false_iff_eq.mpr c58
                 clear c58
                 have H' := Aside0.mk H
                 clear H
                 try go_wp2
                 have n0_ := Aside0.mk (blk_drew BK371.out)
                 have n1_ := Aside0.mk (blk_drew BK372.out)
                 have n2_ := Aside0.mk (blk_drew BK373.out)
                 have n3_ := Aside0.mk (below_drew1 HB.out)
                 clear BK371
                 clear BK372
                 clear BK373
                 clear HB
                 have BK371 := n0_
                 have BK372 := n1_
                 have BK373 := n2_
                 have HB := n3_
                 clear n0_ n1_ n2_ n3_
                 have p375 : 0 ≤ (x7_3 : Int) := of_decide_eq_true (by first | (with_reducible assumption) | assumption)
                 have q375 : x7_3 < (gl0.length : Int) := of_decide_eq_true (by first | (with_reducible assumption) | assumption)
                 have ql375 : ((x7_3 : Int) < (4 : Int)) = True := eq_true (of_decide_eq_true (by first | (with_reducible assumption) | assumption))
                 obtain ⟨ad375, e375, hx375_0⟩ := Kd.at_int HRG0.out x7_3 p375 q375
                 have hw375_0 := hx375_0
                 obtain rfl : (⟨0, 0, none⟩ : Addr) = ad375 := (by injection e375)
                 (first | simp only [add_plain] at hx375_0 | simp only [add_at] at hx375_0 | simp only [Addr.add, Nat.zero_add] at hx375_0 | skip)
                 replace hx375_0 := (HB.out.cell (World.block_lt_of_cell? w _ hx375_0)).trans hx375_0
                 replace p375 := eq_true p375
                 replace q375 := eq_true q375
                 refine start_ (n := 6) (S := fun w' => w'.cell? ⟨gb371, 0, none⟩ = some (.int .i64 a0_0) ∧ w'.cell? ⟨gb371, 1, none⟩ = some (.int .i64 a0_1) ∧ w'.cell? ⟨gb371, 2, none⟩ = some (.int .i64 a0_2) ∧ w'.cell? ⟨gb371, 3, none⟩ = some (.bool a0_3) ∧ w'.cell? ⟨gb371, 4, none⟩ = some (.bool a0_4) ∧ w'.cell? ((⟨0, 0, none⟩ : Addr).add (x7_3).toNat) = some (.int .i64 (rd gl0 x7_3))) (ds := []) #[false, false, false, false, false, false] (by kernel_rfl) rfl rfl ⟨(blk_cell BK371.out 0).trans rfl, (blk_cell BK371.out 1).trans rfl, (blk_cell BK371.out 2).trans rfl, (blk_cell BK371.out 3).trans rfl, (blk_cell BK371.out 4).trans rfl, ((HB.out.cell (World.block_lt_of_cell? w _ hw375_0)).trans hw375_0)⟩ (fun hHeld => ?_)
                 generalize wr.drew = w59 at BK371 BK372 BK373 HB hx375_0 hHeld ⊢
                 refine pure_ (i := 0) (N := some 86) (v := ?_) (a' := ?_) #[true, false, false, false, false, false] rfl rfl (by kernel_rfl) (fun _ _ _ h => h) (Or.inl ⟨by rfl, ?_⟩) ?_ ?_
                 rotate_left
                 ·intro w'
                  go_simp
                  with_reducible rfl
                 rotate_left
                 ·simp only [Act.put, List.setIfInBounds_toArray, List.set_cons_zero, List.set_cons_succ, i64_w, i32_w]
                  rfl
                 refine pure_ (i := 1) (N := some 87) (v := ?_) (a' := ?_) #[true, true, false, false, false, false] rfl rfl (by kernel_rfl) (fun _ _ _ h => h) (Or.inl ⟨by rfl, ?_⟩) ?_ ?_
                 rotate_left
                 ·intro w'
                  go_simp
                  with_reducible rfl
                 rotate_left
                 ·simp only [Act.put, List.setIfInBounds_toArray, List.set_cons_zero, List.set_cons_succ, i64_w, i32_w]
                  rfl
                 refine pure_ (i := 3) (N := some 89) (v := ?_) (a' := ?_) #[true, true, false, true, false, false] rfl rfl (by kernel_rfl) (fun _ _ _ h => h) (Or.inl ⟨by rfl, ?_⟩) ?_ ?_
                 rotate_left
                 ·intro w'
                  go_simp
                  with_reducible rfl
                 rotate_left
                 ·simp only [Act.put, List.setIfInBounds_toArray, List.set_cons_zero, List.set_cons_succ, i64_w, i32_w]
                  rfl
                 refine take_ (i := 2) (N := some 88) (v := ?_) (a' := ?_) #[true, true, true, true, false, false] rfl rfl (by kernel_rfl) (fun _ _ _ h => h) (Or.inl ⟨by rfl, ?_⟩) hHeld ?_ ?_
                 rotate_left
                 ·rintro w' ⟨s0, s1, s2, s3, s4, s5⟩
                  first | (go_simp; with_reducible rfl) | (simp only [add_plain, Nat.zero_add] at s5; go_simp; with_reducible rfl)
                 rotate_left
                 ·simp only [Act.put, List.setIfInBounds_toArray, List.set_cons_zero, List.set_cons_succ, i64_w, i32_w]
                  rfl
                 refine take_ (i := 4) (N := some 90) (v := ?_) (a' := ?_) #[true, true, true, true, true, false] rfl rfl (by kernel_rfl) (fun _ _ _ h => h) (Or.inl ⟨by rfl, ?_⟩) hHeld ?_ ?_
                 rotate_left
                 ·rintro w' ⟨s0, s1, s2, s3, s4, s5⟩
                  first | (go_simp; with_reducible rfl) | (simp only [add_plain, Nat.zero_add] at s5; go_simp; with_reducible rfl)
                 rotate_left
                 ·simp only [Act.put, List.setIfInBounds_toArray, List.set_cons_zero, List.set_cons_succ, i64_w, i32_w]
                  rfl
                 refine pure_ (i := 5) (N := some 91) (v := ?_) (a' := ?_) #[true, true, true, true, true, true] rfl rfl (by kernel_rfl) (fun _ _ _ h => h) (Or.inl ⟨by rfl, ?_⟩) ?_ ?_
                 rotate_left
                 ·intro w'
                  go_simp
                  with_reducible rfl
                 rotate_left
                 ·simp only [Act.put, List.setIfInBounds_toArray, List.set_cons_zero, List.set_cons_succ, i64_w, i32_w]
                  rfl
                 refine done_ (by kernel_rfl) ?_
                 have hnb60 := NB372_371.out
                 have hnc60 := NB371_372.out
                 have hnb61 := NB372_373.out
                 have hnc61 := NB373_372.out
                 have hcz62 := blk_all5 BK372.out
                 try go_wp2
                 go_roundg k3
                 case measure => have := HJ2.out; have := HJ44.out; have := HK3.out; omega
                 case rel => exact ⟨(wrap64 (x7_3 + 1)), (Go.bits .or .u8 x373000_3 ((((x7_3) % 256) * 8) % 256)), eq_now, H', ⟨by have := HJ2.out; have := HJ44.out; have := HK3.out; omega⟩, ⟨bk_now⟩, ⟨bk_now⟩, ⟨bk_now⟩, ⟨b_now⟩⟩
                ·rw [if_neg c58] at H
                 have c58b0 : ((rd gl0 x7_3) == a0_2) = false := beq_eq_false_iff_ne.mpr c58
                 have c58b1 : ((rd gl0 x7_3) != a0_2) = true := bne_iff_ne.mpr c58
                 have H' := Aside0.mk H
                 clear H
                 try go_wp2
                 have n0_ := Aside0.mk (blk_drew BK371.out)
                 have n1_ := Aside0.mk (blk_drew BK372.out)
                 have n2_ := Aside0.mk (blk_drew BK373.out)
                 have n3_ := Aside0.mk (below_drew1 HB.out)
                 clear BK371
                 clear BK372
                 clear BK373
                 clear HB
                 have BK371 := n0_
                 have BK372 := n1_
                 have BK373 := n2_
                 have HB := n3_
                 clear n0_ n1_ n2_ n3_
                 have p375 : 0 ≤ (x7_3 : Int) := of_decide_eq_true (by first | (with_reducible assumption) | assumption)
                 have q375 : x7_3 < (gl0.length : Int) := of_decide_eq_true (by first | (with_reducible assumption) | assumption)
                 have ql375 : ((x7_3 : Int) < (4 : Int)) = True := eq_true (of_decide_eq_true (by first | (with_reducible assumption) | assumption))
                 obtain ⟨ad375, e375, hx375_0⟩ := Kd.at_int HRG0.out x7_3 p375 q375
                 have hw375_0 := hx375_0
                 obtain rfl : (⟨0, 0, none⟩ : Addr) = ad375 := (by injection e375)
                 (first | simp only [add_plain] at hx375_0 | simp only [add_at] at hx375_0 | simp only [Addr.add, Nat.zero_add] at hx375_0 | skip)
                 replace hx375_0 := (HB.out.cell (World.block_lt_of_cell? w _ hx375_0)).trans hx375_0
                 replace p375 := eq_true p375
                 replace q375 := eq_true q375
                 refine start_ (n := 6) (S := fun w' => w'.cell? ⟨gb371, 0, none⟩ = some (.int .i64 a0_0) ∧ w'.cell? ⟨gb371, 1, none⟩ = some (.int .i64 a0_1) ∧ w'.cell? ⟨gb371, 2, none⟩ = some (.int .i64 a0_2) ∧ w'.cell? ⟨gb371, 3, none⟩ = some (.bool a0_3) ∧ w'.cell? ⟨gb371, 4, none⟩ = some (.bool a0_4) ∧ w'.cell? ((⟨0, 0, none⟩ : Addr).add (x7_3).toNat) = some (.int .i64 (rd gl0 x7_3))) (ds := []) #[false, false, false, false, false, false] (by kernel_rfl) rfl rfl ⟨(blk_cell BK371.out 0).trans rfl, (blk_cell BK371.out 1).trans rfl, (blk_cell BK371.out 2).trans rfl, (blk_cell BK371.out 3).trans rfl, (blk_cell BK371.out 4).trans rfl, ((HB.out.cell (World.block_lt_of_cell? w _ hw375_0)).trans hw375_0)⟩ (fun hHeld => ?_)
                 generalize wr.drew = w63 at BK371 BK372 BK373 HB hx375_0 hHeld ⊢
                 refine pure_ (i := 0) (N := some 86) (v := ?_) (a' := ?_) #[true, false, false, false, false, false] rfl rfl (by kernel_rfl) (fun _ _ _ h => h) (Or.inl ⟨by rfl, ?_⟩) ?_ ?_
                 rotate_left
                 ·intro w'
                  go_simp
                  with_reducible rfl
                 rotate_left
                 ·simp only [Act.put, List.setIfInBounds_toArray, List.set_cons_zero, List.set_cons_succ, i64_w, i32_w]
                  rfl
                 refine pure_ (i := 1) (N := some 87) (v := ?_) (a' := ?_) #[true, true, false, false, false, false] rfl rfl (by kernel_rfl) (fun _ _ _ h => h) (Or.inl ⟨by rfl, ?_⟩) ?_ ?_
                 rotate_left
                 ·intro w'
                  go_simp
                  with_reducible rfl
                 rotate_left
                 ·simp only [Act.put, List.setIfInBounds_toArray, List.set_cons_zero, List.set_cons_succ, i64_w, i32_w]
                  rfl
                 refine pure_ (i := 3) (N := some 89) (v := ?_) (a' := ?_) #[true, true, false, true, false, false] rfl rfl (by kernel_rfl) (fun _ _ _ h => h) (Or.inl ⟨by rfl, ?_⟩) ?_ ?_
                 rotate_left
                 ·intro w'
                  go_simp
                  with_reducible rfl
                 rotate_left
                 ·simp only [Act.put, List.setIfInBounds_toArray, List.set_cons_zero, List.set_cons_succ, i64_w, i32_w]
                  rfl
                 refine take_ (i := 2) (N := some 88) (v := ?_) (a' := ?_) #[true, true, true, true, false, false] rfl rfl (by kernel_rfl) (fun _ _ _ h => h) (Or.inl ⟨by rfl, ?_⟩) hHeld ?_ ?_
                 rotate_left
                 ·rintro w' ⟨s0, s1, s2, s3, s4, s5⟩
                  first | (go_simp; with_reducible rfl) | (simp only [add_plain, Nat.zero_add] at s5; go_simp; with_reducible rfl)
                 rotate_left
                 ·simp only [Act.put, List.setIfInBounds_toArray, List.set_cons_zero, List.set_cons_succ, i64_w, i32_w]
                  rfl
                 refine take_ (i := 4) (N := some 90) (v := ?_) (a' := ?_) #[true, true, true, true, true, false] rfl rfl (by kernel_rfl) (fun _ _ _ h => h) (Or.inl ⟨by rfl, ?_⟩) hHeld ?_ ?_
                 rotate_left
                 ·rintro w' ⟨s0, s1, s2, s3, s4, s5⟩
                  first | (go_simp; with_reducible rfl) | (simp only [add_plain, Nat.zero_add] at s5; go_simp; with_reducible rfl)
                 rotate_left
                 ·simp only [Act.put, List.setIfInBounds_toArray, List.set_cons_zero, List.set_cons_succ, i64_w, i32_w]
                  rfl
                 refine pure_ (i := 5) (N := some 91) (v := ?_) (a' := ?_) #[true, true, true, true, true, true] rfl rfl (by kernel_rfl) (fun _ _ _ h => h) (Or.inl ⟨by rfl, ?_⟩) ?_ ?_
                 rotate_left
                 ·intro w'
                  go_simp
                  with_reducible rfl
                 rotate_left
                 ·simp only [Act.put, List.setIfInBounds_toArray, List.set_cons_zero, List.set_cons_succ, i64_w, i32_w]
                  rfl
                 refine done_ (by kernel_rfl) ?_
                 try go_wp2
                 go_roundg k3
                 case measure => have := HJ2.out; have := HJ44.out; have := HK3.out; omega
                 case rel => exact ⟨(wrap64 (x7_3 + 1)), (x373000_3), eq_now, H', ⟨by have := HJ2.out; have := HJ44.out; have := HK3.out; omega⟩, ⟨bk_now⟩, ⟨bk_now⟩, ⟨bk_now⟩, ⟨b_now⟩⟩
               ·rw [if_neg c57] at H
                exact absurd H (by simp)
              ·rw [if_neg c56] at H
               have c56b0 : decide (x7_3 < 4) = false := decide_eq_false c56
               clear c56
               have H' := Aside0.mk H
               clear H
               go_wp2
               go_meet
               case rel => exact ⟨_, (x373000_3), (a1_2), (a1_4), H', ⟨by have := HJ2.out; have := HJ44.out; have := HK3.out; first | omega | exact Nat.le_refl _⟩, ⟨bk_now⟩, ⟨bk_now⟩, ⟨bk_now⟩, ⟨b_now⟩⟩
           ·rw [if_neg c50] at H
            exact absurd H (by simp)
          ·rw [if_neg c49] at H
           exact absurd H (by simp)
         ·replace c48 := Bool.eq_false_iff.mpr c48
          subst c48
          replace H := sh_f H
          obtain ⟨ji64, hji64⟩ : ∃ j_ : Int, (mn a0_0 11) = j_ := ⟨_, rfl⟩
          replace H : (if 0 ≤ (mx 0 (ji64)) then (if (mx 0 (ji64)) < 12 then (if a0_0 ≥ 10 then (insn_Make.j3 kj44 a0_0 a0_1 a0_2 a0_3 a0_4 (rdOf (0 : Int) ([0, 0, 0, 0, 0, 0, 0, 5, 133, 149, 24, 24] : List Int) (mx 0 (ji64))) a1_1 (((mx 0 (mn a0_0 12)) - 10) % 256) a1_3 a1_4) else (insn_Make.j3 kj44 a0_0 a0_1 a0_2 a0_3 a0_4 (rdOf (0 : Int) ([0, 0, 0, 0, 0, 0, 0, 5, 133, 149, 24, 24] : List Int) (mx 0 (ji64))) a1_1 a1_2 a1_3 a1_4)) else (none)) else (none)) = some (r1, r2, r3, r4, r5, r6) := by first | (rw [hji64] at H; exact H) | (simp only [hji64] at H ⊢; exact H)
          have hji64_ : (if 11 < a0_0 then 11 else a0_0) = ji64 := hji64
          obtain ⟨ji65, hji65⟩ : ∃ j_ : Int, (mx 0 (ji64)) = j_ := ⟨_, rfl⟩
          replace H : (if 0 ≤ (ji65) then (if (ji65) < 12 then (if a0_0 ≥ 10 then (insn_Make.j3 kj44 a0_0 a0_1 a0_2 a0_3 a0_4 (rdOf (0 : Int) ([0, 0, 0, 0, 0, 0, 0, 5, 133, 149, 24, 24] : List Int) (ji65)) a1_1 (((mx 0 (mn a0_0 12)) - 10) % 256) a1_3 a1_4) else (insn_Make.j3 kj44 a0_0 a0_1 a0_2 a0_3 a0_4 (rdOf (0 : Int) ([0, 0, 0, 0, 0, 0, 0, 5, 133, 149, 24, 24] : List Int) (ji65)) a1_1 a1_2 a1_3 a1_4)) else (none)) else (none)) = some (r1, r2, r3, r4, r5, r6) := by first | (rw [hji65] at H; exact H) | (simp only [hji65] at H ⊢; exact H)
          have hji65_ : (if 0 < (ji64) then (ji64) else 0) = ji65 := hji65
          by_cases c66 : 0 ≤ (ji65)
          ·rw [if_pos c66] at H
           have c66b0 : decide (0 ≤ (ji65)) = true := decide_eq_true c66
           clear c66
           by_cases c67 : (ji65) < 12
           ·rw [if_pos c67] at H
            have c67b0 : decide ((ji65) < 12) = true := decide_eq_true c67
            clear c67
            obtain ⟨i376_, hi376_, _⟩ := Option.map_eq_some_iff.1 (show (Tryd.prog.info? 5).map (fun i => i.size) = some 1 by kernel_rfl)
            have ix376 : ∀ W_ : World, (Instr.index 74 (.agg #[.int .u8 0, .int .u8 0, .int .u8 0, .int .u8 0, .int .u8 0, .int .u8 0, .int .u8 0, .int .u8 5, .int .u8 133, .int .u8 149, .int .u8 24, .int .u8 24]) (.int .i64 ji65)).run Tryd.prog W_ = .ok (.int .u8 (rdOf (0 : Int) ([0, 0, 0, 0, 0, 0, 0, 5, 133, 149, 24, 24] : List Int) ji65)) W_ := fun W_ => run_index_enc (Value.int .u8) (0 : Int) ([0, 0, 0, 0, 0, 0, 0, 5, 133, 149, 24, 24] : List Int) ji65 W_ Tryd.underlying74 (fun W_ => by kernel_rfl) hi376_ (by kernel_rfl) (by first | omega | exact of_decide_eq_true (by first | (with_reducible assumption) | assumption)) (by first | omega | exact of_decide_eq_true (by first | (with_reducible assumption) | assumption)) rfl
            clear hi376_
            by_cases c68 : a0_0 ≥ 10
            ·rw [if_pos c68] at H
             have c68b0 : decide (10 ≤ a0_0) = true := decide_eq_true c68
             clear c68
             obtain ⟨ji69, hji69⟩ : ∃ j_ : Int, (mn a0_0 12) = j_ := ⟨_, rfl⟩
             replace H : (insn_Make.j3 kj44 a0_0 a0_1 a0_2 a0_3 a0_4 (rdOf (0 : Int) ([0, 0, 0, 0, 0, 0, 0, 5, 133, 149, 24, 24] : List Int) (ji65)) a1_1 (((mx 0 (ji69)) - 10) % 256) a1_3 a1_4) = some (r1, r2, r3, r4, r5, r6) := by first | (rw [hji69] at H; exact H) | (simp only [hji69] at H ⊢; exact H)
             have hji69_ : (if 12 < a0_0 then 12 else a0_0) = ji69 := hji69
             obtain ⟨ji70, hji70⟩ : ∃ j_ : Int, (mx 0 (ji69)) = j_ := ⟨_, rfl⟩
             replace H : (insn_Make.j3 kj44 a0_0 a0_1 a0_2 a0_3 a0_4 (rdOf (0 : Int) ([0, 0, 0, 0, 0, 0, 0, 5, 133, 149, 24, 24] : List Int) (ji65)) a1_1 (((ji70) - 10) % 256) a1_3 a1_4) = some (r1, r2, r3, r4, r5, r6) := by first | (rw [hji70] at H; exact H) | (simp only [hji70] at H ⊢; exact H)
             have hji70_ : (if 0 < (ji69) then (ji69) else 0) = ji70 := hji70
             have H' := Aside0.mk H
             clear H
             have hnb71 := NB371_372.out
             have hnc71 := NB372_371.out
             have hnb72 := NB371_373.out
             have hnc72 := NB373_371.out
             have hcz73 := blk_all5 BK371.out
             have hnb74 := NB372_373.out
             have hnc74 := NB373_372.out
             have hcz75 := blk_all5 BK372.out
             go_wp2
             go_meet
             case rel => exact ⟨_, (rdOf (0 : Int) ([0, 0, 0, 0, 0, 0, 0, 5, 133, 149, 24, 24] : List Int) (ji65)), (((ji70) - 10) % 256), (a1_4), H', ⟨by have := HJ2.out; have := HJ44.out; first | omega | exact Nat.le_refl _⟩, ⟨bk_now⟩, ⟨by (with_reducible repeat (first | refine blk_drewN ?_ _ | refine blk_drew ?_ | refine blk_alloc ?_ _)); refine blk_put (cs := #[.int .u8 (rdOf (0 : Int) ([0, 0, 0, 0, 0, 0, 0, 5, 133, 149, 24, 24] : List Int) (ji65)), .int .u8 a1_1, .int .u8 a1_2, .int .i16 a1_3, .int .i32 a1_4]) ?_ 2 _ rfl; (with_reducible repeat (first | refine blk_drewN ?_ _ | refine blk_drew ?_ | refine blk_alloc ?_ _)); refine blk_put (cs := #[.int .u8 a1_0, .int .u8 a1_1, .int .u8 a1_2, .int .i16 a1_3, .int .i32 a1_4]) ?_ 0 _ rfl; (with_reducible repeat (first | refine blk_drewN ?_ _ | refine blk_drew ?_ | refine blk_alloc ?_ _)); exact BK372.out⟩, ⟨bk_now⟩, ⟨b_now⟩⟩
            ·rw [if_neg c68] at H
             have c68b0 : decide (10 ≤ a0_0) = false := decide_eq_false c68
             clear c68
             have H' := Aside0.mk H
             clear H
             have hnb76 := NB371_372.out
             have hnc76 := NB372_371.out
             have hnb77 := NB371_373.out
             have hnc77 := NB373_371.out
             have hcz78 := blk_all5 BK371.out
             have hnb79 := NB372_373.out
             have hnc79 := NB373_372.out
             have hcz80 := blk_all5 BK372.out
             go_wp2
             go_meet
             case rel => exact ⟨_, (rdOf (0 : Int) ([0, 0, 0, 0, 0, 0, 0, 5, 133, 149, 24, 24] : List Int) (ji65)), (a1_2), (a1_4), H', ⟨by have := HJ2.out; have := HJ44.out; first | omega | exact Nat.le_refl _⟩, ⟨bk_now⟩, ⟨bk_now⟩, ⟨bk_now⟩, ⟨b_now⟩⟩
           ·rw [if_neg c67] at H
            exact absurd H (by simp)
          ·rw [if_neg c66] at H
           exact absurd H (by simp)
   case rest =>
    clear HC11
    try clear c1
    try clear c2
    try clear p2
    try clear c3
    try clear p3
    try clear q3
    try clear hx3
    try clear c4
    try clear c5
    try clear c6
    try clear p6
    try clear c7
    try clear c8
    try clear c10
    try clear c12
    try clear c13
    try clear c15
    try clear c15b0
    try clear c15b1
    try clear c16
    try clear c17
    try clear c18
    try clear c20
    try clear c21
    try clear c22
    try clear c23
    try clear c25
    try clear c27
    try clear c27b0
    try clear c27b1
    try clear c28
    try clear c29
    try clear c30
    try clear c32
    try clear p32
    try clear c34
    try clear c35
    try clear c37
    try clear p37
    try clear q37
    try clear hx37
    try clear c39
    try clear c39b0
    try clear c39b1
    try clear c40
    try clear c41
    try clear c43
    try clear c46
    try clear c46b0
    try clear c46b1
    try clear c47
    try clear c47b0
    try clear c47b1
    try clear c48
    try clear c49
    try clear c49b0
    try clear c50
    try clear c50b0
    try clear c51
    try clear c52
    try clear c54
    try clear c56
    try clear c56b0
    try clear c57
    try clear c57b0
    try clear c58
    try clear c58b0
    try clear c58b1
    try clear c60
    try clear c61
    try clear p64
    try clear c66
    try clear c66b0
    try clear c67
    try clear c67b0
    try clear c68
    try clear c68b0
    try clear c71
    try clear c72
    try clear c74
    try clear c76
    try clear c77
    try clear c79
    try clear hcz14
    try clear hcz19
    try clear hcz21
    try clear hcz24
    try clear hcz26
    try clear hcz31
    try clear hcz33
    try clear hcz36
    try clear hcz38
    try clear hcz42
    try clear hcz44
    try clear hcz53
    try clear hcz55
    try clear hcz62
    try clear hcz73
    try clear hcz75
    try clear hcz78
    try clear hcz80
    try clear hcz9
    try clear hx375_0
    try clear p2
    try clear p3
    try clear p32
    try clear p375
    try clear p6
    try clear q375
    obtain ⟨kq, x373000_10, x373002_10, x373004_10, HA, HJ10, BK371, BK372, BK373, HB⟩ := hcut
    cases kq with
    | zero => exact absurd HA.out (by simp [insn_Make.j3])
    | succ kj10 =>
     have H := HA.out
     clear HA
     simp only [insn_Make.j3] at H
     have HC81 := Aside0.mk H
     clear H
     go_upto_region 28 with (fail)
     go_cut [107] (fun v107 wc => ∃ (kq : Nat) (x107_80 : Bool), v107 = .bool x107_80 ∧ Aside0 (insn_Make.j4 kq x107_80 x373000_10 a1_1 x373002_10 a1_3 x373004_10 = some (r1, r2, r3, r4, r5, r6)) ∧ Aside0 (kq ≤ kj10) ∧ Aside0 (wc.heap[gb371]? = some (.cells #[.int .i64 a0_0, .int .i64 a0_1, .int .i64 a0_2, .bool a0_3, .bool a0_4] 26 (0, 0))) ∧ Aside0 (wc.heap[gb372]? = some (.cells #[.int .u8 x373000_10, .int .u8 a1_1, .int .u8 x373002_10, .int .i16 a1_3, .int .i32 x373004_10] 24 (0, 0))) ∧ Aside0 (wc.heap[gb373]? = some (.cells #[.int .u8 0, .int .u8 0, .int .u8 0, .int .i16 0, .int .i32 0] 24 (0, 0))) ∧ Aside0 (Below w.heap.size w wc))
     case first =>
      have H := HC81.out
      clear HC81
      by_cases c82 : (a0_0 == 0 && (a0_1 == 0 && (a0_2 == 0 && (!a0_3 && (!a0_4))))) = true
      ·rw [if_pos c82] at H
       have c82b0 : (a0_0 == 0 && (a0_1 == 0 && (a0_2 == 0 && (!a0_3 && (!a0_4))))) = true := c82
       (try (have c82b1 : decide (a0_0 = 0 && (a0_1 == 0 && (a0_2 == 0 && (!a0_3 && (!a0_4))))) = true := by simpa using c82))
       (try (have c82b2 : (a0_0 == 0 && (a0_1 == 0 && (a0_2 == 0 && (!a0_3 && (!a0_4))))) = true := by simpa using c82))
       clear c82
       (first | rw [c82b0] | (simp only [i64_w, i32_w]; rw [c82b0]) | skip)
       have H' := Aside0.mk H
       clear H
       try go_wp2
       have n0_ := Aside0.mk (blk_drew BK371.out)
       have n1_ := Aside0.mk (blk_drew BK372.out)
       have n2_ := Aside0.mk (blk_drew BK373.out)
       have n3_ := Aside0.mk (below_drew1 HB.out)
       clear BK371
       clear BK372
       clear BK373
       clear HB
       have BK371 := n0_
       have BK372 := n1_
       have BK373 := n2_
       have HB := n3_
       clear n0_ n1_ n2_ n3_
       refine start_ (n := 9) (S := fun w' => w'.cell? ⟨gb371, 0, none⟩ = some (.int .i64 a0_0) ∧ w'.cell? ⟨gb371, 1, none⟩ = some (.int .i64 a0_1) ∧ w'.cell? ⟨gb371, 2, none⟩ = some (.int .i64 a0_2) ∧ w'.cell? ⟨gb371, 3, none⟩ = some (.bool a0_3) ∧ w'.cell? ⟨gb371, 4, none⟩ = some (.bool a0_4)) (ds := []) #[false, false, false, false, false, false, false, false, false] (by kernel_rfl) rfl rfl ⟨(blk_cell BK371.out 0).trans rfl, (blk_cell BK371.out 1).trans rfl, (blk_cell BK371.out 2).trans rfl, (blk_cell BK371.out 3).trans rfl, (blk_cell BK371.out 4).trans rfl⟩ (fun hHeld => ?_); refine with_tabW insn_Make.tab28 insn_Make.bits28 (fun HT_ HW_ => ?_)
       generalize wc.drew = w83 at BK371 BK372 BK373 HB hHeld ⊢
       refine pure_ (i := 1) (N := some 100) (v := ?_) (a' := ?_) #[false, true, false, false, false, false, false, false, false] rfl rfl (any_of HT_.out (by kernel_rfl)) (fun _ _ _ h => h) (Or.inl ⟨by rfl, ?_⟩) ?_ ?_
       rotate_left
       ·intro w'
        go_simp
        with_reducible rfl
       rotate_left
       ·simp only [Act.put, List.setIfInBounds_toArray, List.set_cons_zero, List.set_cons_succ, i64_w, i32_w]
        rfl
       refine take_ (i := 0) (N := some 99) (v := ?_) (a' := ?_) #[true, true, false, false, false, false, false, false, false] rfl rfl (take_ofW HT_.out HW_.out (by kernel_rfl)) (fun _ _ _ h => h) (Or.inl ⟨by rfl, ?_⟩) hHeld ?_ ?_
       rotate_left
       ·rintro w' ⟨s0, s1, s2, s3, s4⟩
        go_simp
        with_reducible rfl
       rotate_left
       ·simp only [Act.put, List.setIfInBounds_toArray, List.set_cons_zero, List.set_cons_succ, i64_w, i32_w]
        rfl
       refine pure_ (i := 2) (N := some 101) (v := ?_) (a' := ?_) #[true, true, true, false, false, false, false, false, false] rfl rfl (any_of HT_.out (by kernel_rfl)) (fun _ _ _ h => h) (Or.inl ⟨by rfl, ?_⟩) ?_ ?_
       rotate_left
       ·intro w'
        go_simp
        with_reducible rfl
       rotate_left
       ·simp only [Act.put, List.setIfInBounds_toArray, List.set_cons_zero, List.set_cons_succ, i64_w, i32_w]
        rfl
       refine pure_ (i := 3) (N := some 102) (v := ?_) (a' := ?_) #[true, true, true, true, false, false, false, false, false] rfl rfl (any_of HT_.out (by kernel_rfl)) (fun _ _ _ h => h) (Or.inl ⟨by rfl, ?_⟩) ?_ ?_
       rotate_left
       ·intro w'
        go_simp
        with_reducible rfl
       rotate_left
       ·simp only [Act.put, List.setIfInBounds_toArray, List.set_cons_zero, List.set_cons_succ, i64_w, i32_w]
        rfl
       refine pure_ (i := 4) (N := some 103) (v := undef) (a' := ?_) #[true, true, true, true, true, false, false, false, false] rfl rfl (any_of HT_.out (by kernel_rfl)) (fun _ _ _ h => h) (Or.inr ⟨by rfl, rfl⟩) ?_ ?_
       rotate_left
       ·simp only [Act.put, List.setIfInBounds_toArray, List.set_cons_zero, List.set_cons_succ, i64_w, i32_w]
        rfl
       refine pure_ (i := 5) (N := some 104) (v := undef) (a' := ?_) #[true, true, true, true, true, true, false, false, false] rfl rfl (any_of HT_.out (by kernel_rfl)) (fun _ _ _ h => h) (Or.inr ⟨by rfl, rfl⟩) ?_ ?_
       rotate_left
       ·simp only [Act.put, List.setIfInBounds_toArray, List.set_cons_zero, List.set_cons_succ, i64_w, i32_w]
        rfl
       refine pure_ (i := 6) (N := some 105) (v := undef) (a' := ?_) #[true, true, true, true, true, true, true, false, false] rfl rfl (any_of HT_.out (by kernel_rfl)) (fun _ _ _ h => h) (Or.inr ⟨by rfl, rfl⟩) ?_ ?_
       rotate_left
       ·simp only [Act.put, List.setIfInBounds_toArray, List.set_cons_zero, List.set_cons_succ, i64_w, i32_w]
        rfl
       refine pure_ (i := 7) (N := some 106) (v := undef) (a' := ?_) #[true, true, true, true, true, true, true, true, false] rfl rfl (any_of HT_.out (by kernel_rfl)) (fun _ _ _ h => h) (Or.inr ⟨by rfl, rfl⟩) ?_ ?_
       rotate_left
       ·simp only [Act.put, List.setIfInBounds_toArray, List.set_cons_zero, List.set_cons_succ, i64_w, i32_w]
        rfl
       refine pure_ (i := 8) (N := some 107) (v := ?_) (a' := ?_) #[true, true, true, true, true, true, true, true, true] rfl rfl (any_of HT_.out (by kernel_rfl)) (fun _ _ _ h => h) (Or.inl ⟨by rfl, ?_⟩) ?_ ?_
       rotate_left
       ·intro w'
        go_simp
        with_reducible rfl
       rotate_left
       ·simp only [Act.put, List.setIfInBounds_toArray, List.set_cons_zero, List.set_cons_succ, i64_w, i32_w]
        rfl
       refine done_ (done_of HT_.out (by kernel_rfl)) ?_
       try go_wp2
       go_meet
       case rel => exact ⟨_, (true), eq_now, H', ⟨by have := HJ2.out; have := HJ10.out; first | omega | exact Nat.le_refl _⟩, ⟨bk_now⟩, ⟨bk_now⟩, ⟨bk_now⟩, ⟨b_now⟩⟩
      ·rw [if_neg c82] at H
       have c82b0 : (a0_0 == 0 && (a0_1 == 0 && (a0_2 == 0 && (!a0_3 && (!a0_4))))) = false := by simpa using c82
       (try (have c82b1 : decide (a0_0 = 0 && (a0_1 == 0 && (a0_2 == 0 && (!a0_3 && (!a0_4))))) = false := by simpa using c82))
       (try (have c82b2 : (a0_0 == 0 && (a0_1 == 0 && (a0_2 == 0 && (!a0_3 && (!a0_4))))) = false := by simpa using c82))
       (try (have c82b3 : ¬ (a0_0 = 0 && (a0_1 == 0 && (a0_2 == 0 && (!a0_3 && (!a0_4))))) := by simpa using c82))
       clear c82
       (first | rw [c82b0] | (simp only [i64_w, i32_w]; rw [c82b0]) | skip)
       replace H := Option.bind_eq_some_iff.mp H; obtain ⟨⟨t377, t378, t379, t380, t381⟩, A840, H⟩ := H; try dsimp only at H
       have A84 := Aside0.mk A840
       clear A840
       have H' := Aside0.mk H
       clear H
       try go_wp2
       have n0_ := Aside0.mk (blk_drew BK371.out)
       have n1_ := Aside0.mk (blk_drew BK372.out)
       have n2_ := Aside0.mk (blk_drew BK373.out)
       have n3_ := Aside0.mk (below_drew1 HB.out)
       clear BK371
       clear BK372
       clear BK373
       clear HB
       have BK371 := n0_
       have BK372 := n1_
       have BK373 := n2_
       have HB := n3_
       clear n0_ n1_ n2_ n3_
       refine start_ (n := 9) (S := fun w' => w'.cell? ⟨gb371, 0, none⟩ = some (.int .i64 a0_0) ∧ w'.cell? ⟨gb371, 1, none⟩ = some (.int .i64 a0_1) ∧ w'.cell? ⟨gb371, 2, none⟩ = some (.int .i64 a0_2) ∧ w'.cell? ⟨gb371, 3, none⟩ = some (.bool a0_3) ∧ w'.cell? ⟨gb371, 4, none⟩ = some (.bool a0_4) ∧ w'.cell? ⟨gb372, 0, none⟩ = some (.int .u8 x373000_10) ∧ w'.cell? ⟨gb372, 1, none⟩ = some (.int .u8 a1_1) ∧ w'.cell? ⟨gb372, 2, none⟩ = some (.int .u8 x373002_10) ∧ w'.cell? ⟨gb372, 3, none⟩ = some (.int .i16 a1_3) ∧ w'.cell? ⟨gb372, 4, none⟩ = some (.int .i32 x373004_10)) (ds := []) #[false, false, false, false, false, false, false, false, false] (by kernel_rfl) rfl rfl ⟨(blk_cell BK371.out 0).trans rfl, (blk_cell BK371.out 1).trans rfl, (blk_cell BK371.out 2).trans rfl, (blk_cell BK371.out 3).trans rfl, (blk_cell BK371.out 4).trans rfl, (blk_cell BK372.out 0).trans rfl, (blk_cell BK372.out 1).trans rfl, (blk_cell BK372.out 2).trans rfl, (blk_cell BK372.out 3).trans rfl, (blk_cell BK372.out 4).trans rfl⟩ (fun hHeld => ?_); refine with_tabW insn_Make.tab28 insn_Make.bits28 (fun HT_ HW_ => ?_)
       generalize wc.drew = w85 at BK371 BK372 BK373 HB hHeld ⊢
       refine pure_ (i := 1) (N := some 100) (v := ?_) (a' := ?_) #[false, true, false, false, false, false, false, false, false] rfl rfl (any_of HT_.out (by kernel_rfl)) (fun _ _ _ h => h) (Or.inl ⟨by rfl, ?_⟩) ?_ ?_
       rotate_left
       ·intro w'
        go_simp
        with_reducible rfl
       rotate_left
       ·simp only [Act.put, List.setIfInBounds_toArray, List.set_cons_zero, List.set_cons_succ, i64_w, i32_w]
        rfl
       refine take_ (i := 0) (N := some 99) (v := ?_) (a' := ?_) #[true, true, false, false, false, false, false, false, false] rfl rfl (take_ofW HT_.out HW_.out (by kernel_rfl)) (fun _ _ _ h => h) (Or.inl ⟨by rfl, ?_⟩) hHeld ?_ ?_
       rotate_left
       ·rintro w' ⟨s0, s1, s2, s3, s4, s5, s6, s7, s8, s9⟩
        go_simp
        with_reducible rfl
       rotate_left
       ·simp only [Act.put, List.setIfInBounds_toArray, List.set_cons_zero, List.set_cons_succ, i64_w, i32_w]
        rfl
       refine pure_ (i := 2) (N := some 101) (v := ?_) (a' := ?_) #[true, true, true, false, false, false, false, false, false] rfl rfl (any_of HT_.out (by kernel_rfl)) (fun _ _ _ h => h) (Or.inl ⟨by rfl, ?_⟩) ?_ ?_
       rotate_left
       ·intro w'
        go_simp
        with_reducible rfl
       rotate_left
       ·simp only [Act.put, List.setIfInBounds_toArray, List.set_cons_zero, List.set_cons_succ, i64_w, i32_w]
        rfl
       refine pure_ (i := 3) (N := some 102) (v := ?_) (a' := ?_) #[true, true, true, true, false, false, false, false, false] rfl rfl (any_of HT_.out (by kernel_rfl)) (fun _ _ _ h => h) (Or.inl ⟨by rfl, ?_⟩) ?_ ?_
       rotate_left
       ·intro w'
        go_simp
        with_reducible rfl
       rotate_left
       ·simp only [Act.put, List.setIfInBounds_toArray, List.set_cons_zero, List.set_cons_succ, i64_w, i32_w]
        rfl
       refine take_ (i := 4) (N := some 103) (v := ?_) (a' := ?_) #[true, true, true, true, true, false, false, false, false] rfl rfl (take_ofW HT_.out HW_.out (by kernel_rfl)) (fun _ _ _ h => h) (Or.inl ⟨by rfl, ?_⟩) hHeld ?_ ?_
       rotate_left
       ·rintro w' ⟨s0, s1, s2, s3, s4, s5, s6, s7, s8, s9⟩
        go_simp
        with_reducible rfl
       rotate_left
       ·simp only [Act.put, List.setIfInBounds_toArray, List.set_cons_zero, List.set_cons_succ, i64_w, i32_w]
        rfl
       refine take_ (i := 6) (N := some 105) (v := ?_) (a' := ?_) #[true, true, true, true, true, false, true, false, false] rfl rfl (take_ofW HT_.out HW_.out (by kernel_rfl)) (fun _ _ _ h => h) (Or.inl ⟨by rfl, ?_⟩) hHeld ?_ ?_
       rotate_left
       ·rintro w' ⟨s0, s1, s2, s3, s4, s5, s6, s7, s8, s9⟩
        go_simp
        with_reducible rfl
       rotate_left
       ·simp only [Act.put, List.setIfInBounds_toArray, List.set_cons_zero, List.set_cons_succ, i64_w, i32_w]
        rfl
       refine one_ (i := 5) (N := some 104) #[true, true, true, true, true, true, true, false, false] rfl rfl (one_of HT_.out (by kernel_rfl)) (by decide) (fun K hK => ?_)
       refine goes_ Tryd.func30 (by kernel_rfl) rfl #[.agg #[.int .u8 x373000_10, .int .u8 a1_1, .int .u8 x373002_10, .int .i16 a1_3, .int .i32 x373004_10]] (by rfl) rfl rfl (by (try simp only [List.map_toArray, List.map_cons, List.map_nil]); first | done | rfl | (simp only [List.length_drop, List.length_take]; rfl)) ?_
       with_reducible refine (insn_kind.calls kj10 x373000_10 a1_1 x373002_10 a1_3 x373004_10 t377 t378 t379 t380 t381 _ ?side1 A84.out).mono ?_
       (case side1 => repeat (first | exact (Kd.C_below HRG0.out HB.out) | (with_reducible refine Kd.C_alloc ?_ _) | (with_reducible refine Kd.C_drewN ?_ _) | (with_reducible refine Kd.C_drew ?_)))
       rintro e w86 ⟨rfl, hb⟩
       refine ⟨_, rfl, ?_⟩
       have n0_ := Aside0.mk (blk_below (g := gb371) (o := .cells #[.int .i64 a0_0, .int .i64 a0_1, .int .i64 a0_2, .bool a0_3, .bool a0_4] 26 (0, 0)) bk_now hb)
       have n1_ := Aside0.mk (blk_below (g := gb372) (o := .cells #[.int .u8 x373000_10, .int .u8 a1_1, .int .u8 x373002_10, .int .i16 a1_3, .int .i32 x373004_10] 24 (0, 0)) bk_now hb)
       have n2_ := Aside0.mk (blk_below (g := gb373) (o := .cells #[.int .u8 0, .int .u8 0, .int .u8 0, .int .i16 0, .int .i32 0] 24 (0, 0)) bk_now hb)
       have n3_ := Aside0.mk (below_step b_now hb)
       clear BK371
       clear BK372
       clear BK373
       clear HB
       have BK371 := n0_
       have BK372 := n1_
       have BK373 := n2_
       have HB := n3_
       clear n0_ n1_ n2_ n3_
       (try clear hb)
       (try clear hb2)
       (try clear hk)
       (try clear hi)
       refine hK.out _ _ ⟨(blk_cell BK371.out 0).trans rfl, (blk_cell BK371.out 1).trans rfl, (blk_cell BK371.out 2).trans rfl, (blk_cell BK371.out 3).trans rfl, (blk_cell BK371.out 4).trans rfl, (blk_cell BK372.out 0).trans rfl, (blk_cell BK372.out 1).trans rfl, (blk_cell BK372.out 2).trans rfl, (blk_cell BK372.out 3).trans rfl, (blk_cell BK372.out 4).trans rfl⟩ (fun hHeld => ?_)
       clear hK K
       refine norm_ (a' := ?_) ?_ ?_
       rotate_left
       ·show Act.put _ (some 104) _ = _
        simp only [Act.put, List.setIfInBounds_toArray, List.set_cons_zero, List.set_cons_succ, i64_w, i32_w]
        rfl
       refine pure_ (i := 7) (N := some 106) (v := ?_) (a' := ?_) #[true, true, true, true, true, true, true, true, false] rfl rfl (any_of HT_.out (by kernel_rfl)) (fun _ _ _ h => h) (Or.inl ⟨by rfl, ?_⟩) ?_ ?_
       rotate_left
       ·intro w'
        go_simp
        with_reducible rfl
       rotate_left
       ·simp only [Act.put, List.setIfInBounds_toArray, List.set_cons_zero, List.set_cons_succ, i64_w, i32_w]
        rfl
       refine pure_ (i := 8) (N := some 107) (v := ?_) (a' := ?_) #[true, true, true, true, true, true, true, true, true] rfl rfl (any_of HT_.out (by kernel_rfl)) (fun _ _ _ h => h) (Or.inl ⟨by rfl, ?_⟩) ?_ ?_
       rotate_left
       ·intro w'
        go_simp
        with_reducible rfl
       rotate_left
       ·simp only [Act.put, List.setIfInBounds_toArray, List.set_cons_zero, List.set_cons_succ, i64_w, i32_w]
        rfl
       refine done_ (done_of HT_.out (by kernel_rfl)) ?_
       try go_wp2
       go_meet
       case rel => exact ⟨_, ((!(t377 == a0_0) || (!(t378 == a0_1) || (!(t379 == a0_2) || (!(t380 == a0_3) || (!(t381 == a0_4))))))), eq_now, H', ⟨by have := HJ2.out; have := HJ10.out; first | omega | exact Nat.le_refl _⟩, ⟨bk_now⟩, ⟨bk_now⟩, ⟨bk_now⟩, ⟨b_now⟩⟩
     case rest =>
      clear HC81
      try clear c1
      try clear c2
      try clear p2
      try clear c3
      try clear p3
      try clear q3
      try clear hx3
      try clear c4
      try clear c5
      try clear c6
      try clear p6
      try clear c7
      try clear c8
      try clear c10
      try clear c12
      try clear c13
      try clear c15
      try clear c15b0
      try clear c15b1
      try clear c16
      try clear c17
      try clear c18
      try clear c20
      try clear c21
      try clear c22
      try clear c23
      try clear c25
      try clear c27
      try clear c27b0
      try clear c27b1
      try clear c28
      try clear c29
      try clear c30
      try clear c32
      try clear p32
      try clear c34
      try clear c35
      try clear c37
      try clear p37
      try clear q37
      try clear hx37
      try clear c39
      try clear c39b0
      try clear c39b1
      try clear c40
      try clear c41
      try clear c43
      try clear c46
      try clear c46b0
      try clear c46b1
      try clear c47
      try clear c47b0
      try clear c47b1
      try clear c48
      try clear c49
      try clear c49b0
      try clear c50
      try clear c50b0
      try clear c51
      try clear c52
      try clear c54
      try clear c56
      try clear c56b0
      try clear c57
      try clear c57b0
      try clear c58
      try clear c58b0
      try clear c58b1
      try clear c60
      try clear c61
      try clear p64
      try clear c66
      try clear c66b0
      try clear c67
      try clear c67b0
      try clear c68
      try clear c68b0
      try clear c71
      try clear c72
      try clear c74
      try clear c76
      try clear c77
      try clear c79
      try clear c82
      try clear c82b0
      try clear c82b1
      try clear c82b2
      try clear hcz14
      try clear hcz19
      try clear hcz21
      try clear hcz24
      try clear hcz26
      try clear hcz31
      try clear hcz33
      try clear hcz36
      try clear hcz38
      try clear hcz42
      try clear hcz44
      try clear hcz53
      try clear hcz55
      try clear hcz62
      try clear hcz73
      try clear hcz75
      try clear hcz78
      try clear hcz80
      try clear hcz9
      try clear hx375_0
      try clear p2
      try clear p3
      try clear p32
      try clear p37
      try clear p375
      try clear p6
      try clear p64
      try clear q3
      try clear q37
      try clear q375
      obtain ⟨kq, x107_80, rfl, HA, HJ80, BK371, BK372, BK373, HB⟩ := hcut
      cases kq with
      | zero => exact absurd HA.out (by simp [insn_Make.j4])
      | succ kj80 =>
       have H := HA.out
       clear HA
       simp only [insn_Make.j4] at H
       by_cases c87 : x107_80 = true
       ·subst c87
        replace H := sh_t H
        simp only [Option.some.injEq, Prod.mk.injEq] at H
        obtain ⟨rfl, rfl, rfl, rfl, rfl, rfl⟩ := H
        have hnb88 := NB373_371.out
        have hnc88 := NB371_373.out
        have hnb89 := NB373_372.out
        have hnc89 := NB372_373.out
        have hcz90 := blk_all5 BK373.out
        go_wp2
        refine bodyPost_ret (results_ct rfl _ _ gb373 24 #[.int .u8 0, .int .u8 0, .int .u8 0, .int .i16 0, .int .i32 0] (0, 0) _ rfl bk_now Tryd.underlying24 rfl (by kernel_rfl)) rfl ?_
        exact ⟨ret_now, b_now⟩
       ·replace c87 := Bool.eq_false_iff.mpr c87
        subst c87
        replace H := sh_f H
        replace H := Option.bind_eq_some_iff.mp H; obtain ⟨⟨t382, t383, t384, t385, t386, t387⟩, A910, H⟩ := H; try dsimp only at H
        have A91 := Aside0.mk A910
        clear A910
        by_cases c92 : t387 = 0
        ·rw [if_pos c92] at H
         have c92b0 : (t387 == 0) = true := beq_iff_eq.mpr c92
         have c92b1 : (t387 != 0) = false := bne_eq_false_iff_eq.mpr c92
         clear c92
         simp only [Option.some.injEq, Prod.mk.injEq] at H
         obtain ⟨rfl, rfl, rfl, rfl, rfl, rfl⟩ := H
         have hnb93 := NB372_371.out
         have hnc93 := NB371_372.out
         have hnb94 := NB372_373.out
         have hnc94 := NB373_372.out
         have hcz95 := blk_all5 BK372.out
         go_wp2_with (first | ((with_reducible refine gate_callee (f := 12) rfl ?_); refine sh_call (some 111) Tryd.func12 #[.agg #[.int .u8 x373000_10, .int .u8 a1_1, .int .u8 x373002_10, .int .i16 a1_3, .int .i32 x373004_10]] ?_; (with_reducible refine (insn_Of.calls kj80 x373000_10 a1_1 x373002_10 a1_3 x373004_10 t382 t383 t384 t385 t386 t387 _ ?side1 A91.out).mono ?_); (case side1 => repeat (first | exact (Kd.C_below HRG0.out HB.out) | (with_reducible refine Kd.C_alloc ?_ _) | (with_reducible refine Kd.C_drewN ?_ _) | (with_reducible refine Kd.C_drew ?_))); rintro e w96 ⟨rfl, hb⟩; refine ⟨_, rfl, ?_⟩; replace BK371 := sh_k BK371 hb; replace BK372 := sh_k BK372 hb; replace BK373 := sh_k BK373 hb; replace HB := sh_b (w := w) hb; (try clear hb); (try clear hb2); (try clear hk); (try clear hi)) | ((with_reducible refine gate_dst (N := 8) rfl ?_); refine sh_box 8 #[.int .i64 0, .int .i64 0, .int .i64 0, .bool false, .bool false] 26 ?_; intro gb388 hg w97 hbox hb; have GE388 := sh_z (w := w) hg; have NB371_388 := sh_n BK371 hg; have NB372_388 := sh_n BK372 hg; have NB373_388 := sh_n BK373 hg; have NB388_371 := sh_s NB371_388; have NB388_372 := sh_s NB372_388; have NB388_373 := sh_s NB373_388; replace BK371 := sh_k BK371 hb; replace BK372 := sh_k BK372 hb; replace BK373 := sh_k BK373 hb; replace HB := sh_b (w := w) hb; have BK388 := Aside0.mk (hbox); clear hb hbox hg; have hnb98 := NB388_371.out; have hnc98 := NB371_388.out; have hnb99 := NB388_372.out; have hnc99 := NB372_388.out; have hnb100 := NB388_373.out; have hnc100 := NB373_388.out; have hcz101 := blk_all5 BK388.out; have hcz102 := blk_all5 BK372.out; have hnb103 := NB373_371.out; have hnc103 := NB371_373.out; have hcz104 := blk_all5 BK373.out))
         refine bodyPost_ret (results_ct rfl _ _ gb373 24 #[.int .u8 x373000_10, .int .u8 a1_1, .int .u8 x373002_10, .int .i16 a1_3, .int .i32 x373004_10] (0, 0) _ rfl bk_now Tryd.underlying24 rfl (by kernel_rfl)) rfl ?_
         exact ⟨ret_now, b_now⟩
        ·rw [if_neg c92] at H
         have c92b0 : (t387 == 0) = false := beq_eq_false_iff_ne.mpr c92
         have c92b1 : (t387 != 0) = true := bne_iff_ne.mpr c92
         simp only [Option.some.injEq, Prod.mk.injEq] at H
         obtain ⟨rfl, rfl, rfl, rfl, rfl, rfl⟩ := H
         have hnb105 := NB372_371.out
         have hnc105 := NB371_372.out
         have hnb106 := NB372_373.out
         have hnc106 := NB373_372.out
         have hcz107 := blk_all5 BK372.out
         go_wp2_with (first | ((with_reducible refine gate_callee (f := 12) rfl ?_); refine sh_call (some 111) Tryd.func12 #[.agg #[.int .u8 x373000_10, .int .u8 a1_1, .int .u8 x373002_10, .int .i16 a1_3, .int .i32 x373004_10]] ?_; (with_reducible refine (insn_Of.calls kj80 x373000_10 a1_1 x373002_10 a1_3 x373004_10 t382 t383 t384 t385 t386 t387 _ ?side1 A91.out).mono ?_); (case side1 => repeat (first | exact (Kd.C_below HRG0.out HB.out) | (with_reducible refine Kd.C_alloc ?_ _) | (with_reducible refine Kd.C_drewN ?_ _) | (with_reducible refine Kd.C_drew ?_))); rintro e w108 ⟨rfl, hb⟩; refine ⟨_, rfl, ?_⟩; replace BK371 := sh_k BK371 hb; replace BK372 := sh_k BK372 hb; replace BK373 := sh_k BK373 hb; replace HB := sh_b (w := w) hb; (try clear hb); (try clear hb2); (try clear hk); (try clear hi)) | ((with_reducible refine gate_dst (N := 8) rfl ?_); refine sh_box 8 #[.int .i64 0, .int .i64 0, .int .i64 0, .bool false, .bool false] 26 ?_; intro gb388 hg w109 hbox hb; have GE388 := sh_z (w := w) hg; have NB371_388 := sh_n BK371 hg; have NB372_388 := sh_n BK372 hg; have NB373_388 := sh_n BK373 hg; have NB388_371 := sh_s NB371_388; have NB388_372 := sh_s NB372_388; have NB388_373 := sh_s NB373_388; replace BK371 := sh_k BK371 hb; replace BK372 := sh_k BK372 hb; replace BK373 := sh_k BK373 hb; replace HB := sh_b (w := w) hb; have BK388 := Aside0.mk (hbox); clear hb hbox hg; have hnb110 := NB388_371.out; have hnc110 := NB371_388.out; have hnb111 := NB388_372.out; have hnc111 := NB372_388.out; have hnb112 := NB388_373.out; have hnc112 := NB373_388.out; have hcz113 := blk_all5 BK388.out; have hnb114 := NB373_371.out; have hnc114 := NB371_373.out; have hcz115 := blk_all5 BK373.out))
         refine bodyPost_ret (results_ct rfl _ _ gb373 24 #[.int .u8 0, .int .u8 0, .int .u8 0, .int .i16 0, .int .i32 0] (0, 0) _ rfl bk_now Tryd.underlying24 rfl (by kernel_rfl)) rfl ?_
         exact ⟨ret_now, b_now⟩

end Go.Proofs.YtkojjjdeacdabaaDoor.P
