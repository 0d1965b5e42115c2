/- Made by this session's driver over the kit's printer: for each Go function a Lean function with the same answers, and a proof that the Go call comes to these answers; no conditions but the ones each theorem names. -/
import Derived.Test.YtkojjjdeacdabaaDoorPx0
import Derived.Test.YtkojjjdeacdabaaDoorPx2
import Derived.Test.YtkojjjdeacdabaaDoorPx4
import Derived.Test.YtkojjjdeacdabaaDoorPx5
namespace Go.Proofs.YtkojjjdeacdabaaDoor.P
open Go.RowKit Go.Proofs.YtkojjjdeacdabaaDoorW.PrintWords Go.Proofs.YtkojjjdeacdabaaDoorW.PrintLast Go.Proofs.YtkojjjdeacdabaaDoorW.PrintMore
attribute [local go_sem] max2_int min2_int max_two min_two max_three min_three max_four min_four   -- for this text's walks alone
set_option linter.unusedVariables false
set_option linter.unusedSimpArgs false

attribute [local go_sem high] eqA26
/-! ### insn_Of: function 12 -/
mutual
def insn_Of.j0 : Nat → Bool → Int → Int → Int → Int → Int → Int → Int → Int → Bool → Bool → Bool → Bool → Bool → Bool → Bool → Option (Int × Int × Int × Bool × Bool × Int)
 | 0, _, _, _, _, _, _, _, _, _, _, _, _, _, _, _, _ => none
 | k + 1, x38, x115000, x115001, x115002, x115003, x115004, x122000, x122001, x122002, x122003, x122004, x128000, x128001, x128002, x128003, x128004 => if x38 = true then (some (0, 0, 0, false, false, 21)) else (if x128000 = true then (if x128002 = true then (if x128003 = true then (if x128004 = true then (insn_Of.j1 k false x122000 x122001 x122002 x122003 x122004) else (insn_Of.j1 k (x115004 != 0) x122000 x122001 x122002 x122003 x122004)) else (if x115003 = 0 then (if x128004 = true then (insn_Of.j1 k false x122000 x122001 x122002 x122003 x122004) else (insn_Of.j1 k (x115004 != 0) x122000 x122001 x122002 x122003 x122004)) else (insn_Of.j1 k true x122000 x122001 x122002 x122003 x122004))) else (if x115002 = 0 then (if x128003 = true then (if x128004 = true then (insn_Of.j1 k false x122000 x122001 x122002 x122003 x122004) else (insn_Of.j1 k (x115004 != 0) x122000 x122001 x122002 x122003 x122004)) else (if x115003 = 0 then (if x128004 = true then (insn_Of.j1 k false x122000 x122001 x122002 x122003 x122004) else (insn_Of.j1 k (x115004 != 0) x122000 x122001 x122002 x122003 x122004)) else (insn_Of.j1 k true x122000 x122001 x122002 x122003 x122004))) else (if x122000 = 11 then (if x128003 = true then (if x128004 = true then (insn_Of.j1 k false x122000 x122001 x122002 x122003 x122004) else (insn_Of.j1 k (x115004 != 0) x122000 x122001 x122002 x122003 x122004)) else (if x115003 = 0 then (if x128004 = true then (insn_Of.j1 k false x122000 x122001 x122002 x122003 x122004) else (insn_Of.j1 k (x115004 != 0) x122000 x122001 x122002 x122003 x122004)) else (insn_Of.j1 k true x122000 x122001 x122002 x122003 x122004))) else (insn_Of.j1 k true x122000 x122001 x122002 x122003 x122004)))) else (if x115001 = 0 then (if x128002 = true then (if x128003 = true then (if x128004 = true then (insn_Of.j1 k false x122000 x122001 x122002 x122003 x122004) else (insn_Of.j1 k (x115004 != 0) x122000 x122001 x122002 x122003 x122004)) else (if x115003 = 0 then (if x128004 = true then (insn_Of.j1 k false x122000 x122001 x122002 x122003 x122004) else (insn_Of.j1 k (x115004 != 0) x122000 x122001 x122002 x122003 x122004)) else (insn_Of.j1 k true x122000 x122001 x122002 x122003 x122004))) else (if x115002 = 0 then (if x128003 = true then (if x128004 = true then (insn_Of.j1 k false x122000 x122001 x122002 x122003 x122004) else (insn_Of.j1 k (x115004 != 0) x122000 x122001 x122002 x122003 x122004)) else (if x115003 = 0 then (if x128004 = true then (insn_Of.j1 k false x122000 x122001 x122002 x122003 x122004) else (insn_Of.j1 k (x115004 != 0) x122000 x122001 x122002 x122003 x122004)) else (insn_Of.j1 k true x122000 x122001 x122002 x122003 x122004))) else (if x122000 = 11 then (if x128003 = true then (if x128004 = true then (insn_Of.j1 k false x122000 x122001 x122002 x122003 x122004) else (insn_Of.j1 k (x115004 != 0) x122000 x122001 x122002 x122003 x122004)) else (if x115003 = 0 then (if x128004 = true then (insn_Of.j1 k false x122000 x122001 x122002 x122003 x122004) else (insn_Of.j1 k (x115004 != 0) x122000 x122001 x122002 x122003 x122004)) else (insn_Of.j1 k true x122000 x122001 x122002 x122003 x122004))) else (insn_Of.j1 k true x122000 x122001 x122002 x122003 x122004)))) else (insn_Of.j1 k true x122000 x122001 x122002 x122003 x122004)))
def insn_Of.j1 : Nat → Bool → Int → Int → Int → Bool → Bool → Option (Int × Int × Int × Bool × Bool × Int)
 | 0, _, _, _, _, _, _ => none
 | k + 1, x82, x122000, x122001, x122002, x122003, x122004 => if x82 = true then (some (0, 0, 0, false, false, 22)) else (some (x122000, x122001, x122002, x122003, x122004, 0))
end
def insn_Of.f (k : Nat) (a0_0 : Int) (a0_1 : Int) (a0_2 : Int) (a0_3 : Int) (a0_4 : Int) : Option (Int × Int × Int × Bool × Bool × Int) := (insn_kind.f k a0_0 a0_1 a0_2 a0_3 a0_4).bind fun bt116 => (if (bt116.1 == 0 && (bt116.2.1 == 0 && (bt116.2.2.1 == 0 && (!bt116.2.2.2.1 && (!bt116.2.2.2.2))))) = true then (some (0, 0, 0, false, false, 20)) else ((insn_fields.f k bt116.1 bt116.2.1 bt116.2.2.1 bt116.2.2.2.1 bt116.2.2.2.2).bind fun bt122 => (if bt122.1 = true then (if a0_1 > 10 then (insn_Of.j0 k true a0_0 a0_1 a0_2 a0_3 a0_4 bt116.1 bt116.2.1 bt116.2.2.1 bt116.2.2.2.1 bt116.2.2.2.2 bt122.1 bt122.2.1 bt122.2.2.1 bt122.2.2.2.1 bt122.2.2.2.2) else (if bt122.2.1 = true then (if a0_1 = 10 then (insn_Of.j0 k true a0_0 a0_1 a0_2 a0_3 a0_4 bt116.1 bt116.2.1 bt116.2.2.1 bt116.2.2.2.1 bt116.2.2.2.2 bt122.1 bt122.2.1 bt122.2.2.1 bt122.2.2.2.1 bt122.2.2.2.2) else (if bt122.2.2.1 = true then (insn_Of.j0 k (decide (a0_2 > 10)) a0_0 a0_1 a0_2 a0_3 a0_4 bt116.1 bt116.2.1 bt116.2.2.1 bt116.2.2.2.1 bt116.2.2.2.2 bt122.1 bt122.2.1 bt122.2.2.1 bt122.2.2.2.1 bt122.2.2.2.2) else (insn_Of.j0 k false a0_0 a0_1 a0_2 a0_3 a0_4 bt116.1 bt116.2.1 bt116.2.2.1 bt116.2.2.2.1 bt116.2.2.2.2 bt122.1 bt122.2.1 bt122.2.2.1 bt122.2.2.2.1 bt122.2.2.2.2))) else (if bt122.2.2.1 = true then (insn_Of.j0 k (decide (a0_2 > 10)) a0_0 a0_1 a0_2 a0_3 a0_4 bt116.1 bt116.2.1 bt116.2.2.1 bt116.2.2.2.1 bt116.2.2.2.2 bt122.1 bt122.2.1 bt122.2.2.1 bt122.2.2.2.1 bt122.2.2.2.2) else (insn_Of.j0 k false a0_0 a0_1 a0_2 a0_3 a0_4 bt116.1 bt116.2.1 bt116.2.2.1 bt116.2.2.2.1 bt116.2.2.2.2 bt122.1 bt122.2.1 bt122.2.2.1 bt122.2.2.2.1 bt122.2.2.2.2)))) else (if bt122.2.1 = true then (if a0_1 = 10 then (insn_Of.j0 k true a0_0 a0_1 a0_2 a0_3 a0_4 bt116.1 bt116.2.1 bt116.2.2.1 bt116.2.2.2.1 bt116.2.2.2.2 bt122.1 bt122.2.1 bt122.2.2.1 bt122.2.2.2.1 bt122.2.2.2.2) else (if bt122.2.2.1 = true then (insn_Of.j0 k (decide (a0_2 > 10)) a0_0 a0_1 a0_2 a0_3 a0_4 bt116.1 bt116.2.1 bt116.2.2.1 bt116.2.2.2.1 bt116.2.2.2.2 bt122.1 bt122.2.1 bt122.2.2.1 bt122.2.2.2.1 bt122.2.2.2.2) else (insn_Of.j0 k false a0_0 a0_1 a0_2 a0_3 a0_4 bt116.1 bt116.2.1 bt116.2.2.1 bt116.2.2.2.1 bt116.2.2.2.2 bt122.1 bt122.2.1 bt122.2.2.1 bt122.2.2.2.1 bt122.2.2.2.2))) else (if bt122.2.2.1 = true then (insn_Of.j0 k (decide (a0_2 > 10)) a0_0 a0_1 a0_2 a0_3 a0_4 bt116.1 bt116.2.1 bt116.2.2.1 bt116.2.2.2.1 bt116.2.2.2.2 bt122.1 bt122.2.1 bt122.2.2.1 bt122.2.2.2.1 bt122.2.2.2.2) else (insn_Of.j0 k false a0_0 a0_1 a0_2 a0_3 a0_4 bt116.1 bt116.2.1 bt116.2.2.1 bt116.2.2.2.1 bt116.2.2.2.2 bt122.1 bt122.2.1 bt122.2.2.1 bt122.2.2.2.1 bt122.2.2.2.2))))))
theorem insn_Of.mono_l : ∀ k, (∀ y0 y1 y2 y3 y4 y5 y6 y7 y8 y9 y10 y11 y12 y13 y14 y15, LeO (insn_Of.j0 k y0 y1 y2 y3 y4 y5 y6 y7 y8 y9 y10 y11 y12 y13 y14 y15) (insn_Of.j0 (k + 1) y0 y1 y2 y3 y4 y5 y6 y7 y8 y9 y10 y11 y12 y13 y14 y15)) ∧ (∀ y0 y1 y2 y3 y4 y5, LeO (insn_Of.j1 k y0 y1 y2 y3 y4 y5) (insn_Of.j1 (k + 1) y0 y1 y2 y3 y4 y5))
 | 0 => ⟨fun _ _ _ _ _ _ _ _ _ _ _ _ _ _ _ _ r h => by simp [insn_Of.j0] at h, fun _ _ _ _ _ _ r h => by simp [insn_Of.j1] at h⟩
 | k + 1 => by
  obtain ⟨ih0, ih1⟩ := insn_Of.mono_l k
  refine ⟨?_, ?_⟩
  ·intro y0 y1 y2 y3 y4 y5 y6 y7 y8 y9 y10 y11 y12 y13 y14 y15
   unfold insn_Of.j0
   repeat' first
   | (with_reducible exact ih0 _ _ _ _ _ _ _ _ _ _ _ _ _ _ _ _)
   | (with_reducible exact ih1 _ _ _ _ _ _)
   | (with_reducible exact insn_fields.mono _ _ _ _ _ _)
   | (with_reducible exact insn_kind.mono _ _ _ _ _ _)
   | (with_reducible exact LeO.refl _)
   | (with_reducible exact LeO.none _)
   | (with_reducible refine LeO.ite ?_ ?_)
   | (with_reducible refine LeO.bind ?_ (fun _ => ?_))
   | exact ih0 _ _ _ _ _ _ _ _ _ _ _ _ _ _ _ _
   | exact ih1 _ _ _ _ _ _
   | exact insn_fields.mono _ _ _ _ _ _
   | exact insn_kind.mono _ _ _ _ _ _
   | exact LeO.none _
   | refine LeO.ite ?_ ?_
   | refine LeO.bind ?_ (fun _ => ?_)
  ·intro y0 y1 y2 y3 y4 y5
   unfold insn_Of.j1
   repeat' first
   | (with_reducible exact ih0 _ _ _ _ _ _ _ _ _ _ _ _ _ _ _ _)
   | (with_reducible exact ih1 _ _ _ _ _ _)
   | (with_reducible exact insn_fields.mono _ _ _ _ _ _)
   | (with_reducible exact insn_kind.mono _ _ _ _ _ _)
   | (with_reducible exact LeO.refl _)
   | (with_reducible exact LeO.none _)
   | (with_reducible refine LeO.ite ?_ ?_)
   | (with_reducible refine LeO.bind ?_ (fun _ => ?_))
   | exact ih0 _ _ _ _ _ _ _ _ _ _ _ _ _ _ _ _
   | exact ih1 _ _ _ _ _ _
   | exact insn_fields.mono _ _ _ _ _ _
   | exact insn_kind.mono _ _ _ _ _ _
   | exact LeO.none _
   | refine LeO.ite ?_ ?_
   | refine LeO.bind ?_ (fun _ => ?_)
theorem insn_Of.mono : ∀ a0 a1 a2 a3 a4 k, LeO (insn_Of.f k a0 a1 a2 a3 a4) (insn_Of.f (k + 1) a0 a1 a2 a3 a4) := by
 intro a0 a1 a2 a3 a4 k
 obtain ⟨ih0, ih1⟩ := insn_Of.mono_l k
 unfold insn_Of.f
 repeat' first
   | (with_reducible exact ih0 _ _ _ _ _ _ _ _ _ _ _ _ _ _ _ _)
   | (with_reducible exact ih1 _ _ _ _ _ _)
   | (with_reducible exact insn_fields.mono _ _ _ _ _ _)
   | (with_reducible exact insn_kind.mono _ _ _ _ _ _)
   | (with_reducible exact LeO.refl _)
   | (with_reducible exact LeO.none _)
   | (with_reducible refine LeO.ite ?_ ?_)
   | (with_reducible refine LeO.bind ?_ (fun _ => ?_))
   | exact ih0 _ _ _ _ _ _ _ _ _ _ _ _ _ _ _ _
   | exact ih1 _ _ _ _ _ _
   | exact insn_fields.mono _ _ _ _ _ _
   | exact insn_kind.mono _ _ _ _ _ _
   | exact LeO.none _
   | refine LeO.ite ?_ ?_
   | refine LeO.bind ?_ (fun _ => ?_)
set_option maxHeartbeats 8000000 in
set_option maxRecDepth 100000 in
theorem insn_Of.calls (k : Nat) (a0_0 : Int) (a0_1 : Int) (a0_2 : Int) (a0_3 : Int) (a0_4 : Int) (r1 : Int) (r2 : Int) (r3 : Int) (r4 : Bool) (r5 : Bool) (r6 : Int) (w : World) (hrG0 : Kd.C (Kd.int .i64) w (some ⟨0, 0, none⟩) gl0.length gl0) (h : insn_Of.f k a0_0 a0_1 a0_2 a0_3 a0_4 = some (r1, r2, r3, r4, r5, r6)) :
  Calls Tryd.prog 12 #[.agg #[.int .u8 a0_0, .int .u8 a0_1, .int .u8 a0_2, .int .i16 a0_3, .int .i32 a0_4]] w fun e w' => e = .returned (.tuple #[.agg #[.int .i64 r1, .int .i64 r2, .int .i64 r3, .bool r4, .bool r5], .int .i64 r6]) ∧ Below w.heap.size w w' := by
 have hu24 := Tryd.underlying24
 have hu26 := Tryd.underlying26
 have hu62 := Tryd.underlying62
 have HRG0 := Aside0.mk hrG0
 clear hrG0
 have HB := Aside0.mk (Below.refl w.heap.size w)
 have H : ((insn_kind.f k a0_0 a0_1 a0_2 a0_3 a0_4).bind fun bt116 => (if (bt116.1 == 0 && (bt116.2.1 == 0 && (bt116.2.2.1 == 0 && (!bt116.2.2.2.1 && (!bt116.2.2.2.2))))) = true then (some (0, 0, 0, false, false, 20)) else ((insn_fields.f k bt116.1 bt116.2.1 bt116.2.2.1 bt116.2.2.2.1 bt116.2.2.2.2).bind fun bt122 => (if bt122.1 = true then (if a0_1 > 10 then (insn_Of.j0 k true a0_0 a0_1 a0_2 a0_3 a0_4 bt116.1 bt116.2.1 bt116.2.2.1 bt116.2.2.2.1 bt116.2.2.2.2 bt122.1 bt122.2.1 bt122.2.2.1 bt122.2.2.2.1 bt122.2.2.2.2) else (if bt122.2.1 = true then (if a0_1 = 10 then (insn_Of.j0 k true a0_0 a0_1 a0_2 a0_3 a0_4 bt116.1 bt116.2.1 bt116.2.2.1 bt116.2.2.2.1 bt116.2.2.2.2 bt122.1 bt122.2.1 bt122.2.2.1 bt122.2.2.2.1 bt122.2.2.2.2) else (if bt122.2.2.1 = true then (insn_Of.j0 k (decide (a0_2 > 10)) a0_0 a0_1 a0_2 a0_3 a0_4 bt116.1 bt116.2.1 bt116.2.2.1 bt116.2.2.2.1 bt116.2.2.2.2 bt122.1 bt122.2.1 bt122.2.2.1 bt122.2.2.2.1 bt122.2.2.2.2) else (insn_Of.j0 k false a0_0 a0_1 a0_2 a0_3 a0_4 bt116.1 bt116.2.1 bt116.2.2.1 bt116.2.2.2.1 bt116.2.2.2.2 bt122.1 bt122.2.1 bt122.2.2.1 bt122.2.2.2.1 bt122.2.2.2.2))) else (if bt122.2.2.1 = true then (insn_Of.j0 k (decide (a0_2 > 10)) a0_0 a0_1 a0_2 a0_3 a0_4 bt116.1 bt116.2.1 bt116.2.2.1 bt116.2.2.2.1 bt116.2.2.2.2 bt122.1 bt122.2.1 bt122.2.2.1 bt122.2.2.2.1 bt122.2.2.2.2) else (insn_Of.j0 k false a0_0 a0_1 a0_2 a0_3 a0_4 bt116.1 bt116.2.1 bt116.2.2.1 bt116.2.2.2.1 bt116.2.2.2.2 bt122.1 bt122.2.1 bt122.2.2.1 bt122.2.2.2.1 bt122.2.2.2.2)))) else (if bt122.2.1 = true then (if a0_1 = 10 then (insn_Of.j0 k true a0_0 a0_1 a0_2 a0_3 a0_4 bt116.1 bt116.2.1 bt116.2.2.1 bt116.2.2.2.1 bt116.2.2.2.2 bt122.1 bt122.2.1 bt122.2.2.1 bt122.2.2.2.1 bt122.2.2.2.2) else (if bt122.2.2.1 = true then (insn_Of.j0 k (decide (a0_2 > 10)) a0_0 a0_1 a0_2 a0_3 a0_4 bt116.1 bt116.2.1 bt116.2.2.1 bt116.2.2.2.1 bt116.2.2.2.2 bt122.1 bt122.2.1 bt122.2.2.1 bt122.2.2.2.1 bt122.2.2.2.2) else (insn_Of.j0 k false a0_0 a0_1 a0_2 a0_3 a0_4 bt116.1 bt116.2.1 bt116.2.2.1 bt116.2.2.2.1 bt116.2.2.2.2 bt122.1 bt122.2.1 bt122.2.2.1 bt122.2.2.2.1 bt122.2.2.2.2))) else (if bt122.2.2.1 = true then (insn_Of.j0 k (decide (a0_2 > 10)) a0_0 a0_1 a0_2 a0_3 a0_4 bt116.1 bt116.2.1 bt116.2.2.1 bt116.2.2.2.1 bt116.2.2.2.2 bt122.1 bt122.2.1 bt122.2.2.1 bt122.2.2.2.1 bt122.2.2.2.2) else (insn_Of.j0 k false a0_0 a0_1 a0_2 a0_3 a0_4 bt116.1 bt116.2.1 bt116.2.2.1 bt116.2.2.2.1 bt116.2.2.2.2 bt122.1 bt122.2.1 bt122.2.2.1 bt122.2.2.2.1 bt122.2.2.2.2))))))) = some (r1, r2, r3, r4, r5, r6) := h
 clear h
 replace H := Option.bind_eq_some_iff.mp H; obtain ⟨⟨t116, t117, t118, t119, t120⟩, A20, H⟩ := H; try dsimp only at H
 have A2 := Aside0.mk A20
 clear A20
 by_cases c3 : (t116 == 0 && (t117 == 0 && (t118 == 0 && (!t119 && (!t120))))) = true
 ·rw [if_pos c3] at H
  have c3b0 : (t116 == 0 && (t117 == 0 && (t118 == 0 && (!t119 && (!t120))))) = true := c3
  (try (have c3b1 : decide (t116 = 0 && (t117 == 0 && (t118 == 0 && (!t119 && (!t120))))) = true := by simpa using c3))
  (try (have c3b2 : (t116 == 0 && (t117 == 0 && (t118 == 0 && (!t119 && (!t120))))) = true := by simpa using c3))
  clear c3
  simp only [Option.some.injEq, Prod.mk.injEq] at H
  obtain ⟨rfl, rfl, rfl, rfl, rfl, rfl⟩ := H
  go_enter Tryd.func12, Tryd.ntmps12
  go_wp2_with (first | ((with_reducible refine gate_dst (N := 1) rfl ?_); refine sh_box 1 #[.int .u8 a0_0, .int .u8 a0_1, .int .u8 a0_2, .int .i16 a0_3, .int .i32 a0_4] 24 ?_; intro gb114 hg w4 hbox hb; have GE114 := sh_z (w := w) hg; replace HB := sh_b (w := w) hb; have BK114 := Aside0.mk (hbox); clear hb hbox hg) | ((with_reducible refine gate_dst (N := 2) rfl ?_); refine sh_box 2 #[.int .i64 0, .int .i64 0, .int .i64 0, .bool false, .bool false] 26 ?_; intro gb115 hg w5 hbox hb; have GE115 := sh_z (w := w) hg; have NB114_115 := sh_n BK114 hg; have NB115_114 := sh_s NB114_115; replace BK114 := sh_k BK114 hb; replace HB := sh_b (w := w) hb; have BK115 := Aside0.mk (hbox); clear hb hbox hg; have hnb6 := NB114_115.out; have hnc6 := NB115_114.out; have hcz7 := blk_all5 BK114.out) | ((with_reducible refine gate_callee (f := 30) rfl ?_); refine sh_call (some 7) Tryd.func30 #[.agg #[.int .u8 a0_0, .int .u8 a0_1, .int .u8 a0_2, .int .i16 a0_3, .int .i32 a0_4]] ?_; (with_reducible refine (insn_kind.calls k a0_0 a0_1 a0_2 a0_3 a0_4 t116 t117 t118 t119 t120 _ ?side1 A2.out).mono ?_); (case side1 => repeat (first | exact (Kd.C_below HRG0.out HB.out) | (with_reducible refine Kd.C_alloc ?_ _) | (with_reducible refine Kd.C_drewN ?_ _) | (with_reducible refine Kd.C_drew ?_))); rintro e w8 ⟨rfl, hb⟩; refine ⟨_, rfl, ?_⟩; replace BK114 := sh_k BK114 hb; replace BK115 := sh_k BK115 hb; replace HB := sh_b (w := w) hb; (try clear hb); (try clear hb2); (try clear hk); (try clear hi)) | ((with_reducible refine gate_dst (N := 4) rfl ?_); refine sh_box 4 #[.int .i64 0, .int .i64 0, .int .i64 0, .bool false, .bool false] 26 ?_; intro gb121 hg w9 hbox hb; have GE121 := sh_z (w := w) hg; have NB114_121 := sh_n BK114 hg; have NB115_121 := sh_n BK115 hg; have NB121_114 := sh_s NB114_121; have NB121_115 := sh_s NB115_121; replace BK114 := sh_k BK114 hb; replace BK115 := sh_k BK115 hb; replace HB := sh_b (w := w) hb; have BK121 := Aside0.mk (hbox); clear hb hbox hg; have hnb10 := NB121_114.out; have hnc10 := NB114_121.out; have hnb11 := NB121_115.out; have hnc11 := NB115_121.out; have hcz12 := blk_all5 BK121.out; have hcz13 := blk_all5 BK115.out))
  refine bodyPost_ret (results_ct rfl _ _ gb115 26 #[.int .i64 0, .int .i64 0, .int .i64 0, .bool false, .bool false] (0, 0) _ rfl bk_now Tryd.underlying26 rfl (by kernel_rfl)) rfl ?_
  exact ⟨ret_now, b_now⟩
 ·rw [if_neg c3] at H
  have c3b0 : (t116 == 0 && (t117 == 0 && (t118 == 0 && (!t119 && (!t120))))) = false := by simpa using c3
  (try (have c3b1 : decide (t116 = 0 && (t117 == 0 && (t118 == 0 && (!t119 && (!t120))))) = false := by simpa using c3))
  (try (have c3b2 : (t116 == 0 && (t117 == 0 && (t118 == 0 && (!t119 && (!t120))))) = false := by simpa using c3))
  (try (have c3b3 : ¬ (t116 = 0 && (t117 == 0 && (t118 == 0 && (!t119 && (!t120))))) := by simpa using c3))
  clear c3
  replace H := Option.bind_eq_some_iff.mp H; obtain ⟨⟨t122, t123, t124, t125, t126⟩, A140, H⟩ := H; try dsimp only at H
  have A14 := Aside0.mk A140
  clear A140
  have HC15 := Aside0.mk H
  clear H
  go_enter Tryd.func12, Tryd.ntmps12
  go_upto_region 5 with (first | ((with_reducible refine gate_dst (N := 1) rfl ?_); refine sh_box 1 #[.int .u8 a0_0, .int .u8 a0_1, .int .u8 a0_2, .int .i16 a0_3, .int .i32 a0_4] 24 ?_; intro gb114 hg w16 hbox hb; have GE114 := sh_z (w := w) hg; replace HB := sh_b (w := w) hb; have BK114 := Aside0.mk (hbox); clear hb hbox hg) | ((with_reducible refine gate_dst (N := 2) rfl ?_); refine sh_box 2 #[.int .i64 0, .int .i64 0, .int .i64 0, .bool false, .bool false] 26 ?_; intro gb115 hg w17 hbox hb; have GE115 := sh_z (w := w) hg; have NB114_115 := sh_n BK114 hg; have NB115_114 := sh_s NB114_115; replace BK114 := sh_k BK114 hb; replace HB := sh_b (w := w) hb; have BK115 := Aside0.mk (hbox); clear hb hbox hg; have hnb18 := NB114_115.out; have hnc18 := NB115_114.out; have hcz19 := blk_all5 BK114.out) | ((with_reducible refine gate_callee (f := 30) rfl ?_); refine sh_call (some 7) Tryd.func30 #[.agg #[.int .u8 a0_0, .int .u8 a0_1, .int .u8 a0_2, .int .i16 a0_3, .int .i32 a0_4]] ?_; (with_reducible refine (insn_kind.calls k a0_0 a0_1 a0_2 a0_3 a0_4 t116 t117 t118 t119 t120 _ ?side1 A2.out).mono ?_); (case side1 => repeat (first | exact (Kd.C_below HRG0.out HB.out) | (with_reducible refine Kd.C_alloc ?_ _) | (with_reducible refine Kd.C_drewN ?_ _) | (with_reducible refine Kd.C_drew ?_))); rintro e w20 ⟨rfl, hb⟩; refine ⟨_, rfl, ?_⟩; replace BK114 := sh_k BK114 hb; replace BK115 := sh_k BK115 hb; replace HB := sh_b (w := w) hb; (try clear hb); (try clear hb2); (try clear hk); (try clear hi)) | ((with_reducible refine gate_dst (N := 4) rfl ?_); refine sh_box 4 #[.int .i64 0, .int .i64 0, .int .i64 0, .bool false, .bool false] 26 ?_; intro gb121 hg w21 hbox hb; have GE121 := sh_z (w := w) hg; have NB114_121 := sh_n BK114 hg; have NB115_121 := sh_n BK115 hg; have NB121_114 := sh_s NB114_121; have NB121_115 := sh_s NB115_121; replace BK114 := sh_k BK114 hb; replace BK115 := sh_k BK115 hb; replace HB := sh_b (w := w) hb; have BK121 := Aside0.mk (hbox); clear hb hbox hg; have hnb22 := NB121_114.out; have hnc22 := NB114_121.out; have hnb23 := NB121_115.out; have hnc23 := NB115_121.out; have hcz24 := blk_all5 BK121.out) | ((with_reducible refine gate_callee (f := 31) rfl ?_); refine sh_call (some 13) Tryd.func31 #[.agg #[.int .i64 t116, .int .i64 t117, .int .i64 t118, .bool t119, .bool t120]] ?_; (with_reducible refine (insn_fields.calls k t116 t117 t118 t119 t120 t122 t123 t124 t125 t126 _ A14.out).mono ?_); rintro e w25 ⟨rfl, hb⟩; refine ⟨_, rfl, ?_⟩; replace BK114 := sh_kp (g := gb114) (t := 24) #[.int .u8 a0_0, .int .u8 a0_1, .int .u8 a0_2, .int .i16 a0_3, .int .i32 a0_4] hb; replace BK115 := sh_kp (g := gb115) (t := 26) #[.int .i64 0, .int .i64 0, .int .i64 0, .bool false, .bool false] hb; replace BK121 := sh_kp (g := gb121) (t := 26) #[.int .i64 t116, .int .i64 t117, .int .i64 t118, .bool t119, .bool t120] hb; replace HB := sh_b (w := w) hb; (try clear hb); (try clear hb2); (try clear hk); (try clear hi)) | ((with_reducible refine gate_dst (N := 5) rfl ?_); refine sh_box 5 #[.bool false, .bool false, .bool false, .bool false, .bool false] 62 ?_; intro gb127 hg w26 hbox hb; have GE127 := sh_z (w := w) hg; have NB114_127 := sh_n BK114 hg; have NB115_127 := sh_n BK115 hg; have NB121_127 := sh_n BK121 hg; have NB127_114 := sh_s NB114_127; have NB127_115 := sh_s NB115_127; have NB127_121 := sh_s NB121_127; replace BK114 := sh_k BK114 hb; replace BK115 := sh_k BK115 hb; replace BK121 := sh_k BK121 hb; replace HB := sh_b (w := w) hb; have BK127 := Aside0.mk (hbox); clear hb hbox hg; have hnb27 := NB127_114.out; have hnc27 := NB114_127.out; have hnb28 := NB127_115.out; have hnc28 := NB115_127.out; have hnb29 := NB127_121.out; have hnc29 := NB121_127.out; have hcz30 := blk_all5 BK127.out))
  (try simp only [Act.put, List.setIfInBounds_toArray, List.set_cons_zero, List.set_cons_succ])
  go_cut [38] (fun v38 wc => ∃ (kq : Nat) (x38_14 : Bool), v38 = .bool x38_14 ∧ Aside0 (insn_Of.j0 kq x38_14 a0_0 a0_1 a0_2 a0_3 a0_4 t116 t117 t118 t119 t120 t122 t123 t124 t125 t126 = some (r1, r2, r3, r4, r5, r6)) ∧ Aside0 (kq ≤ k) ∧ Aside0 (wc.heap[gb114]? = some (.cells #[.int .u8 a0_0, .int .u8 a0_1, .int .u8 a0_2, .int .i16 a0_3, .int .i32 a0_4] 24 (0, 0))) ∧ Aside0 (wc.heap[gb115]? = some (.cells #[.int .i64 0, .int .i64 0, .int .i64 0, .bool false, .bool false] 26 (0, 0))) ∧ Aside0 (wc.heap[gb121]? = some (.cells #[.int .i64 t116, .int .i64 t117, .int .i64 t118, .bool t119, .bool t120] 26 (0, 0))) ∧ Aside0 (wc.heap[gb127]? = some (.cells #[.bool t122, .bool t123, .bool t124, .bool t125, .bool t126] 62 (0, 0))) ∧ Aside0 (Below w.heap.size w wc))
  case first =>
   have H := HC15.out
   clear HC15
   by_cases c31 : t122 = true
   ·subst c31
    replace H := sh_t H
    by_cases c32 : a0_1 > 10
    ·rw [if_pos c32] at H
     have c32b0 : decide (10 < a0_1) = true := decide_eq_true c32
     clear c32
     (first | rw [c32b0] | (simp only [i64_w, i32_w]; rw [c32b0]) | skip)
     have H' := Aside0.mk H
     clear H
     have hnb33 := NB127_114.out
     have hnc33 := NB114_127.out
     have hnb34 := NB127_115.out
     have hnc34 := NB115_127.out
     have hnb35 := NB127_121.out
     have hnc35 := NB121_127.out
     have hcz36 := blk_all5 BK127.out
     have hnb37 := NB114_115.out
     have hnc37 := NB115_114.out
     have hnb38 := NB114_121.out
     have hnc38 := NB121_114.out
     have hcz39 := blk_all5 BK114.out
     go_wp2
     go_meet
     case rel => exact ⟨_, (true), eq_now, H', ⟨by first | omega | exact Nat.le_refl _⟩, ⟨bk_now⟩, ⟨bk_now⟩, ⟨bk_now⟩, ⟨bk_now⟩, ⟨b_now⟩⟩
    ·rw [if_neg c32] at H
     have c32b0 : decide (10 < a0_1) = false := decide_eq_false c32
     clear c32
     (first | rw [c32b0] | (simp only [i64_w, i32_w]; rw [c32b0]) | skip)
     by_cases c40 : t123 = true
     ·subst c40
      replace H := sh_t H
      by_cases c41 : a0_1 = 10
      ·rw [if_pos c41] at H
       have c41b0 : (a0_1 == 10) = true := beq_iff_eq.mpr c41
       have c41b1 : (a0_1 != 10) = false := bne_eq_false_iff_eq.mpr c41
       clear c41
       have H' := Aside0.mk H
       clear H
       have hnb42 := NB127_114.out
       have hnc42 := NB114_127.out
       have hnb43 := NB127_115.out
       have hnc43 := NB115_127.out
       have hnb44 := NB127_121.out
       have hnc44 := NB121_127.out
       have hcz45 := blk_all5 BK127.out
       have hnb46 := NB114_115.out
       have hnc46 := NB115_114.out
       have hnb47 := NB114_121.out
       have hnc47 := NB121_114.out
       have hcz48 := blk_all5 BK114.out
       go_wp2
       go_meet
       case rel => exact ⟨_, (true), eq_now, H', ⟨by first | omega | exact Nat.le_refl _⟩, ⟨bk_now⟩, ⟨bk_now⟩, ⟨bk_now⟩, ⟨bk_now⟩, ⟨b_now⟩⟩
      ·rw [if_neg c41] at H
       have c41b0 : (a0_1 == 10) = false := beq_eq_false_iff_ne.mpr c41
       have c41b1 : (a0_1 != 10) = true := bne_iff_ne.mpr c41
       by_cases c49 : t124 = true
       ·subst c49
        replace H := sh_t H
        have H' := Aside0.mk H
        clear H
        have hnb50 := NB127_114.out
        have hnc50 := NB114_127.out
        have hnb51 := NB127_115.out
        have hnc51 := NB115_127.out
        have hnb52 := NB127_121.out
        have hnc52 := NB121_127.out
        have hcz53 := blk_all5 BK127.out
        have hnb54 := NB114_115.out
        have hnc54 := NB115_114.out
        have hnb55 := NB114_121.out
        have hnc55 := NB121_114.out
        have hcz56 := blk_all5 BK114.out
        go_wp2
        go_meet
        case rel => exact ⟨_, (decide (a0_2 > 10)), eq_now, H', ⟨by first | omega | exact Nat.le_refl _⟩, ⟨bk_now⟩, ⟨bk_now⟩, ⟨bk_now⟩, ⟨bk_now⟩, ⟨b_now⟩⟩
       ·replace c49 := Bool.eq_false_iff.mpr c49
        subst c49
        replace H := sh_f H
        have H' := Aside0.mk H
        clear H
        have hnb57 := NB127_114.out
        have hnc57 := NB114_127.out
        have hnb58 := NB127_115.out
        have hnc58 := NB115_127.out
        have hnb59 := NB127_121.out
        have hnc59 := NB121_127.out
        have hcz60 := blk_all5 BK127.out
        have hnb61 := NB114_115.out
        have hnc61 := NB115_114.out
        have hnb62 := NB114_121.out
        have hnc62 := NB121_114.out
        have hcz63 := blk_all5 BK114.out
        go_wp2
        go_meet
        case rel => exact ⟨_, (false), eq_now, H', ⟨by first | omega | exact Nat.le_refl _⟩, ⟨bk_now⟩, ⟨bk_now⟩, ⟨bk_now⟩, ⟨bk_now⟩, ⟨b_now⟩⟩
     ·replace c40 := Bool.eq_false_iff.mpr c40
      subst c40
      replace H := sh_f H
      by_cases c64 : t124 = true
      ·subst c64
       replace H := sh_t H
       have H' := Aside0.mk H
       clear H
       have hnb65 := NB127_114.out
       have hnc65 := NB114_127.out
       have hnb66 := NB127_115.out
       have hnc66 := NB115_127.out
       have hnb67 := NB127_121.out
       have hnc67 := NB121_127.out
       have hcz68 := blk_all5 BK127.out
       have hnb69 := NB114_115.out
       have hnc69 := NB115_114.out
       have hnb70 := NB114_121.out
       have hnc70 := NB121_114.out
       have hcz71 := blk_all5 BK114.out
       go_wp2
       go_meet
       case rel => exact ⟨_, (decide (a0_2 > 10)), eq_now, H', ⟨by first | omega | exact Nat.le_refl _⟩, ⟨bk_now⟩, ⟨bk_now⟩, ⟨bk_now⟩, ⟨bk_now⟩, ⟨b_now⟩⟩
      ·replace c64 := Bool.eq_false_iff.mpr c64
       subst c64
       replace H := sh_f H
       have H' := Aside0.mk H
       clear H
       have hnb72 := NB127_114.out
       have hnc72 := NB114_127.out
       have hnb73 := NB127_115.out
       have hnc73 := NB115_127.out
       have hnb74 := NB127_121.out
       have hnc74 := NB121_127.out
       have hcz75 := blk_all5 BK127.out
       have hnb76 := NB114_115.out
       have hnc76 := NB115_114.out
       have hnb77 := NB114_121.out
       have hnc77 := NB121_114.out
       have hcz78 := blk_all5 BK114.out
       go_wp2
       go_meet
       case rel => exact ⟨_, (false), eq_now, H', ⟨by first | omega | exact Nat.le_refl _⟩, ⟨bk_now⟩, ⟨bk_now⟩, ⟨bk_now⟩, ⟨bk_now⟩, ⟨b_now⟩⟩
   ·replace c31 := Bool.eq_false_iff.mpr c31
    subst c31
    replace H := sh_f H
    by_cases c79 : t123 = true
    ·subst c79
     replace H := sh_t H
     by_cases c80 : a0_1 = 10
     ·rw [if_pos c80] at H
      have c80b0 : (a0_1 == 10) = true := beq_iff_eq.mpr c80
      have c80b1 : (a0_1 != 10) = false := bne_eq_false_iff_eq.mpr c80
      clear c80
      have H' := Aside0.mk H
      clear H
      have hnb81 := NB127_114.out
      have hnc81 := NB114_127.out
      have hnb82 := NB127_115.out
      have hnc82 := NB115_127.out
      have hnb83 := NB127_121.out
      have hnc83 := NB121_127.out
      have hcz84 := blk_all5 BK127.out
      have hnb85 := NB114_115.out
      have hnc85 := NB115_114.out
      have hnb86 := NB114_121.out
      have hnc86 := NB121_114.out
      have hcz87 := blk_all5 BK114.out
      go_wp2
      go_meet
      case rel => exact ⟨_, (true), eq_now, H', ⟨by first | omega | exact Nat.le_refl _⟩, ⟨bk_now⟩, ⟨bk_now⟩, ⟨bk_now⟩, ⟨bk_now⟩, ⟨b_now⟩⟩
     ·rw [if_neg c80] at H
      have c80b0 : (a0_1 == 10) = false := beq_eq_false_iff_ne.mpr c80
      have c80b1 : (a0_1 != 10) = true := bne_iff_ne.mpr c80
      by_cases c88 : t124 = true
      ·subst c88
       replace H := sh_t H
       have H' := Aside0.mk H
       clear H
       have hnb89 := NB127_114.out
       have hnc89 := NB114_127.out
       have hnb90 := NB127_115.out
       have hnc90 := NB115_127.out
       have hnb91 := NB127_121.out
       have hnc91 := NB121_127.out
       have hcz92 := blk_all5 BK127.out
       have hnb93 := NB114_115.out
       have hnc93 := NB115_114.out
       have hnb94 := NB114_121.out
       have hnc94 := NB121_114.out
       have hcz95 := blk_all5 BK114.out
       go_wp2
       go_meet
       case rel => exact ⟨_, (decide (a0_2 > 10)), eq_now, H', ⟨by first | omega | exact Nat.le_refl _⟩, ⟨bk_now⟩, ⟨bk_now⟩, ⟨bk_now⟩, ⟨bk_now⟩, ⟨b_now⟩⟩
      ·replace c88 := Bool.eq_false_iff.mpr c88
       subst c88
       replace H := sh_f H
       have H' := Aside0.mk H
       clear H
       have hnb96 := NB127_114.out
       have hnc96 := NB114_127.out
       have hnb97 := NB127_115.out
       have hnc97 := NB115_127.out
       have hnb98 := NB127_121.out
       have hnc98 := NB121_127.out
       have hcz99 := blk_all5 BK127.out
       have hnb100 := NB114_115.out
       have hnc100 := NB115_114.out
       have hnb101 := NB114_121.out
       have hnc101 := NB121_114.out
       have hcz102 := blk_all5 BK114.out
       go_wp2
       go_meet
       case rel => exact ⟨_, (false), eq_now, H', ⟨by first | omega | exact Nat.le_refl _⟩, ⟨bk_now⟩, ⟨bk_now⟩, ⟨bk_now⟩, ⟨bk_now⟩, ⟨b_now⟩⟩
    ·replace c79 := Bool.eq_false_iff.mpr c79
     subst c79
     replace H := sh_f H
     by_cases c103 : t124 = true
     ·subst c103
      replace H := sh_t H
      have H' := Aside0.mk H
      clear H
      have hnb104 := NB127_114.out
      have hnc104 := NB114_127.out
      have hnb105 := NB127_115.out
      have hnc105 := NB115_127.out
      have hnb106 := NB127_121.out
      have hnc106 := NB121_127.out
      have hcz107 := blk_all5 BK127.out
      have hnb108 := NB114_115.out
      have hnc108 := NB115_114.out
      have hnb109 := NB114_121.out
      have hnc109 := NB121_114.out
      have hcz110 := blk_all5 BK114.out
      go_wp2
      go_meet
      case rel => exact ⟨_, (decide (a0_2 > 10)), eq_now, H', ⟨by first | omega | exact Nat.le_refl _⟩, ⟨bk_now⟩, ⟨bk_now⟩, ⟨bk_now⟩, ⟨bk_now⟩, ⟨b_now⟩⟩
     ·replace c103 := Bool.eq_false_iff.mpr c103
      subst c103
      replace H := sh_f H
      have H' := Aside0.mk H
      clear H
      have hnb111 := NB127_114.out
      have hnc111 := NB114_127.out
      have hnb112 := NB127_115.out
      have hnc112 := NB115_127.out
      have hnb113 := NB127_121.out
      have hnc113 := NB121_127.out
      have hcz114 := blk_all5 BK127.out
      go_wp2
      go_meet
      case rel => exact ⟨_, (false), eq_now, H', ⟨by first | omega | exact Nat.le_refl _⟩, ⟨bk_now⟩, ⟨bk_now⟩, ⟨bk_now⟩, ⟨bk_now⟩, ⟨b_now⟩⟩
  case rest =>
   clear HC15
   try clear c1
   try clear c2
   try clear p2
   try clear c3
   try clear c3b0
   try clear c3b1
   try clear c3b2
   try clear c4
   try clear c5
   try clear c6
   try clear c7
   try clear c8
   try clear c9
   try clear c10
   try clear c11
   try clear c12
   try clear c18
   try clear c22
   try clear c23
   try clear c27
   try clear c28
   try clear c29
   try clear c30
   try clear c31
   try clear c32
   try clear c32b0
   try clear c33
   try clear c34
   try clear c35
   try clear c37
   try clear c38
   try clear c40
   try clear c41
   try clear c41b0
   try clear c41b1
   try clear c42
   try clear c43
   try clear c44
   try clear c46
   try clear c47
   try clear c49
   try clear c50
   try clear c51
   try clear c52
   try clear c54
   try clear c55
   try clear c57
   try clear c58
   try clear c59
   try clear c61
   try clear c62
   try clear c64
   try clear c65
   try clear c66
   try clear c67
   try clear c69
   try clear c70
   try clear c72
   try clear c73
   try clear c74
   try clear c76
   try clear c77
   try clear c79
   try clear c80
   try clear c80b0
   try clear c80b1
   try clear c81
   try clear c82
   try clear c83
   try clear c85
   try clear c86
   try clear c88
   try clear c89
   try clear c90
   try clear c91
   try clear c93
   try clear c94
   try clear c96
   try clear c97
   try clear c98
   try clear c100
   try clear c101
   try clear c103
   try clear c104
   try clear c105
   try clear c106
   try clear c108
   try clear c109
   try clear c111
   try clear c112
   try clear c113
   try clear hcz102
   try clear hcz107
   try clear hcz110
   try clear hcz114
   try clear hcz12
   try clear hcz13
   try clear hcz19
   try clear hcz24
   try clear hcz30
   try clear hcz36
   try clear hcz39
   try clear hcz45
   try clear hcz48
   try clear hcz53
   try clear hcz56
   try clear hcz60
   try clear hcz63
   try clear hcz68
   try clear hcz71
   try clear hcz75
   try clear hcz78
   try clear hcz7
   try clear hcz84
   try clear hcz87
   try clear hcz92
   try clear hcz95
   try clear hcz99
   obtain ⟨kq, x38_14, rfl, HA, HJ14, BK114, BK115, BK121, BK127, HB⟩ := hcut
   cases kq with
   | zero => exact absurd HA.out (by simp [insn_Of.j0])
   | succ kj14 =>
    have H := HA.out
    clear HA
    simp only [insn_Of.j0] at H
    by_cases c115 : x38_14 = true
    ·subst c115
     replace H := sh_t H
     simp only [Option.some.injEq, Prod.mk.injEq] at H
     obtain ⟨rfl, rfl, rfl, rfl, rfl, rfl⟩ := H
     have hnb116 := NB115_114.out
     have hnc116 := NB114_115.out
     have hnb117 := NB115_121.out
     have hnc117 := NB121_115.out
     have hnb118 := NB115_127.out
     have hnc118 := NB127_115.out
     have hcz119 := blk_all5 BK115.out
     go_wp2
     refine bodyPost_ret (results_ct rfl _ _ gb115 26 #[.int .i64 0, .int .i64 0, .int .i64 0, .bool false, .bool false] (0, 0) _ rfl bk_now Tryd.underlying26 rfl (by kernel_rfl)) rfl ?_
     exact ⟨ret_now, b_now⟩
    ·replace c115 := Bool.eq_false_iff.mpr c115
     subst c115
     replace H := sh_f H
     have HC120 := Aside0.mk H
     clear H
     go_upto_region 7 with (fail)
     go_cut [82] (fun v82 wc => ∃ (kq : Nat) (x82_119 : Bool), v82 = .bool x82_119 ∧ Aside0 (insn_Of.j1 kq x82_119 t116 t117 t118 t119 t120 = some (r1, r2, r3, r4, r5, r6)) ∧ Aside0 (kq ≤ kj14) ∧ Aside0 (wc.heap[gb114]? = some (.cells #[.int .u8 a0_0, .int .u8 a0_1, .int .u8 a0_2, .int .i16 a0_3, .int .i32 a0_4] 24 (0, 0))) ∧ Aside0 (wc.heap[gb115]? = some (.cells #[.int .i64 0, .int .i64 0, .int .i64 0, .bool false, .bool false] 26 (0, 0))) ∧ Aside0 (wc.heap[gb121]? = some (.cells #[.int .i64 t116, .int .i64 t117, .int .i64 t118, .bool t119, .bool t120] 26 (0, 0))) ∧ Aside0 (wc.heap[gb127]? = some (.cells #[.bool t122, .bool t123, .bool t124, .bool t125, .bool t126] 62 (0, 0))) ∧ Aside0 (Below w.heap.size w wc))
     case first =>
      have H := HC120.out
      clear HC120
      by_cases c121 : t122 = true
      ·subst c121
       replace H := sh_t H
       by_cases c122 : t124 = true
       ·subst c122
        replace H := sh_t H
        by_cases c123 : t125 = true
        ·subst c123
         replace H := sh_t H
         by_cases c124 : t126 = true
         ·subst c124
          replace H := sh_t H
          have H' := Aside0.mk H
          clear H
          have hnb125 := NB127_114.out
          have hnc125 := NB114_127.out
          have hnb126 := NB127_115.out
          have hnc126 := NB115_127.out
          have hnb127 := NB127_121.out
          have hnc127 := NB121_127.out
          have hcz128 := blk_all5 BK127.out
          go_wp2
          go_meet
          case rel => exact ⟨_, (false), eq_now, H', ⟨by have := HJ14.out; first | omega | exact Nat.le_refl _⟩, ⟨bk_now⟩, ⟨bk_now⟩, ⟨bk_now⟩, ⟨bk_now⟩, ⟨b_now⟩⟩
         ·replace c124 := Bool.eq_false_iff.mpr c124
          subst c124
          replace H := sh_f H
          have H' := Aside0.mk H
          clear H
          have hnb129 := NB127_114.out
          have hnc129 := NB114_127.out
          have hnb130 := NB127_115.out
          have hnc130 := NB115_127.out
          have hnb131 := NB127_121.out
          have hnc131 := NB121_127.out
          have hcz132 := blk_all5 BK127.out
          have hnb133 := NB114_115.out
          have hnc133 := NB115_114.out
          have hnb134 := NB114_121.out
          have hnc134 := NB121_114.out
          have hcz135 := blk_all5 BK114.out
          go_wp2
          go_meet
          case rel => exact ⟨_, ((a0_4 != 0)), eq_now, H', ⟨by have := HJ14.out; first | omega | exact Nat.le_refl _⟩, ⟨bk_now⟩, ⟨bk_now⟩, ⟨bk_now⟩, ⟨bk_now⟩, ⟨b_now⟩⟩
        ·replace c123 := Bool.eq_false_iff.mpr c123
         subst c123
         replace H := sh_f H
         by_cases c136 : a0_3 = 0
         ·rw [if_pos c136] at H
          have c136b0 : (a0_3 == 0) = true := beq_iff_eq.mpr c136
          have c136b1 : (a0_3 != 0) = false := bne_eq_false_iff_eq.mpr c136
          clear c136
          (first | rw [c136b0] | (simp only [i64_w, i32_w]; rw [c136b0]) | skip)
          by_cases c137 : t126 = true
          ·subst c137
           replace H := sh_t H
           have H' := Aside0.mk H
           clear H
           have hnb138 := NB127_114.out
           have hnc138 := NB114_127.out
           have hnb139 := NB127_115.out
           have hnc139 := NB115_127.out
           have hnb140 := NB127_121.out
           have hnc140 := NB121_127.out
           have hcz141 := blk_all5 BK127.out
           have hnb142 := NB114_115.out
           have hnc142 := NB115_114.out
           have hnb143 := NB114_121.out
           have hnc143 := NB121_114.out
           have hcz144 := blk_all5 BK114.out
           go_wp2
           go_meet
           case rel => exact ⟨_, (false), eq_now, H', ⟨by have := HJ14.out; first | omega | exact Nat.le_refl _⟩, ⟨bk_now⟩, ⟨bk_now⟩, ⟨bk_now⟩, ⟨bk_now⟩, ⟨b_now⟩⟩
          ·replace c137 := Bool.eq_false_iff.mpr c137
           subst c137
           replace H := sh_f H
           have H' := Aside0.mk H
           clear H
           have hnb145 := NB127_114.out
           have hnc145 := NB114_127.out
           have hnb146 := NB127_115.out
           have hnc146 := NB115_127.out
           have hnb147 := NB127_121.out
           have hnc147 := NB121_127.out
           have hcz148 := blk_all5 BK127.out
           have hnb149 := NB114_115.out
           have hnc149 := NB115_114.out
           have hnb150 := NB114_121.out
           have hnc150 := NB121_114.out
           have hcz151 := blk_all5 BK114.out
           go_wp2
           go_meet
           case rel => exact ⟨_, ((a0_4 != 0)), eq_now, H', ⟨by have := HJ14.out; first | omega | exact Nat.le_refl _⟩, ⟨bk_now⟩, ⟨bk_now⟩, ⟨bk_now⟩, ⟨bk_now⟩, ⟨b_now⟩⟩
         ·rw [if_neg c136] at H
          have c136b0 : (a0_3 == 0) = false := beq_eq_false_iff_ne.mpr c136
          have c136b1 : (a0_3 != 0) = true := bne_iff_ne.mpr c136
          (first | rw [c136b0] | (simp only [i64_w, i32_w]; rw [c136b0]) | skip)
          have H' := Aside0.mk H
          clear H
          have hnb152 := NB127_114.out
          have hnc152 := NB114_127.out
          have hnb153 := NB127_115.out
          have hnc153 := NB115_127.out
          have hnb154 := NB127_121.out
          have hnc154 := NB121_127.out
          have hcz155 := blk_all5 BK127.out
          have hnb156 := NB114_115.out
          have hnc156 := NB115_114.out
          have hnb157 := NB114_121.out
          have hnc157 := NB121_114.out
          have hcz158 := blk_all5 BK114.out
          go_wp2
          go_meet
          case rel => exact ⟨_, (true), eq_now, H', ⟨by have := HJ14.out; first | omega | exact Nat.le_refl _⟩, ⟨bk_now⟩, ⟨bk_now⟩, ⟨bk_now⟩, ⟨bk_now⟩, ⟨b_now⟩⟩
       ·replace c122 := Bool.eq_false_iff.mpr c122
        subst c122
        replace H := sh_f H
        by_cases c159 : a0_2 = 0
        ·rw [if_pos c159] at H
         have c159b0 : (a0_2 == 0) = true := beq_iff_eq.mpr c159
         have c159b1 : (a0_2 != 0) = false := bne_eq_false_iff_eq.mpr c159
         clear c159
         by_cases c160 : t125 = true
         ·subst c160
          replace H := sh_t H
          by_cases c161 : t126 = true
          ·subst c161
           replace H := sh_t H
           have H' := Aside0.mk H
           clear H
           have hnb162 := NB127_114.out
           have hnc162 := NB114_127.out
           have hnb163 := NB127_115.out
           have hnc163 := NB115_127.out
           have hnb164 := NB127_121.out
           have hnc164 := NB121_127.out
           have hcz165 := blk_all5 BK127.out
           have hnb166 := NB114_115.out
           have hnc166 := NB115_114.out
           have hnb167 := NB114_121.out
           have hnc167 := NB121_114.out
           have hcz168 := blk_all5 BK114.out
           go_wp2
           go_meet
           case rel => exact ⟨_, (false), eq_now, H', ⟨by have := HJ14.out; first | omega | exact Nat.le_refl _⟩, ⟨bk_now⟩, ⟨bk_now⟩, ⟨bk_now⟩, ⟨bk_now⟩, ⟨b_now⟩⟩
          ·replace c161 := Bool.eq_false_iff.mpr c161
           subst c161
           replace H := sh_f H
           have H' := Aside0.mk H
           clear H
           have hnb169 := NB127_114.out
           have hnc169 := NB114_127.out
           have hnb170 := NB127_115.out
           have hnc170 := NB115_127.out
           have hnb171 := NB127_121.out
           have hnc171 := NB121_127.out
           have hcz172 := blk_all5 BK127.out
           have hnb173 := NB114_115.out
           have hnc173 := NB115_114.out
           have hnb174 := NB114_121.out
           have hnc174 := NB121_114.out
           have hcz175 := blk_all5 BK114.out
           go_wp2
           go_meet
           case rel => exact ⟨_, ((a0_4 != 0)), eq_now, H', ⟨by have := HJ14.out; first | omega | exact Nat.le_refl _⟩, ⟨bk_now⟩, ⟨bk_now⟩, ⟨bk_now⟩, ⟨bk_now⟩, ⟨b_now⟩⟩
         ·replace c160 := Bool.eq_false_iff.mpr c160
          subst c160
          replace H := sh_f H
          by_cases c176 : a0_3 = 0
          ·rw [if_pos c176] at H
           have c176b0 : (a0_3 == 0) = true := beq_iff_eq.mpr c176
           have c176b1 : (a0_3 != 0) = false := bne_eq_false_iff_eq.mpr c176
           clear c176
           by_cases c177 : t126 = true
           ·subst c177
            replace H := sh_t H
            have H' := Aside0.mk H
            clear H
            have hnb178 := NB127_114.out
            have hnc178 := NB114_127.out
            have hnb179 := NB127_115.out
            have hnc179 := NB115_127.out
            have hnb180 := NB127_121.out
            have hnc180 := NB121_127.out
            have hcz181 := blk_all5 BK127.out
            have hnb182 := NB114_115.out
            have hnc182 := NB115_114.out
            have hnb183 := NB114_121.out
            have hnc183 := NB121_114.out
            have hcz184 := blk_all5 BK114.out
            go_wp2
            go_meet
            case rel => exact ⟨_, (false), eq_now, H', ⟨by have := HJ14.out; first | omega | exact Nat.le_refl _⟩, ⟨bk_now⟩, ⟨bk_now⟩, ⟨bk_now⟩, ⟨bk_now⟩, ⟨b_now⟩⟩
           ·replace c177 := Bool.eq_false_iff.mpr c177
            subst c177
            replace H := sh_f H
            have H' := Aside0.mk H
            clear H
            have hnb185 := NB127_114.out
            have hnc185 := NB114_127.out
            have hnb186 := NB127_115.out
            have hnc186 := NB115_127.out
            have hnb187 := NB127_121.out
            have hnc187 := NB121_127.out
            have hcz188 := blk_all5 BK127.out
            have hnb189 := NB114_115.out
            have hnc189 := NB115_114.out
            have hnb190 := NB114_121.out
            have hnc190 := NB121_114.out
            have hcz191 := blk_all5 BK114.out
            go_wp2
            go_meet
            case rel => exact ⟨_, ((a0_4 != 0)), eq_now, H', ⟨by have := HJ14.out; first | omega | exact Nat.le_refl _⟩, ⟨bk_now⟩, ⟨bk_now⟩, ⟨bk_now⟩, ⟨bk_now⟩, ⟨b_now⟩⟩
          ·rw [if_neg c176] at H
           have c176b0 : (a0_3 == 0) = false := beq_eq_false_iff_ne.mpr c176
           have c176b1 : (a0_3 != 0) = true := bne_iff_ne.mpr c176
           have H' := Aside0.mk H
           clear H
           have hnb192 := NB127_114.out
           have hnc192 := NB114_127.out
           have hnb193 := NB127_115.out
           have hnc193 := NB115_127.out
           have hnb194 := NB127_121.out
           have hnc194 := NB121_127.out
           have hcz195 := blk_all5 BK127.out
           have hnb196 := NB114_115.out
           have hnc196 := NB115_114.out
           have hnb197 := NB114_121.out
           have hnc197 := NB121_114.out
           have hcz198 := blk_all5 BK114.out
           go_wp2
           go_meet
           case rel => exact ⟨_, (true), eq_now, H', ⟨by have := HJ14.out; first | omega | exact Nat.le_refl _⟩, ⟨bk_now⟩, ⟨bk_now⟩, ⟨bk_now⟩, ⟨bk_now⟩, ⟨b_now⟩⟩
        ·rw [if_neg c159] at H
         have c159b0 : (a0_2 == 0) = false := beq_eq_false_iff_ne.mpr c159
         have c159b1 : (a0_2 != 0) = true := bne_iff_ne.mpr c159
         by_cases c199 : t116 = 11
         ·rw [if_pos c199] at H
          have c199b0 : (t116 == 11) = true := beq_iff_eq.mpr c199
          have c199b1 : (t116 != 11) = false := bne_eq_false_iff_eq.mpr c199
          clear c199
          by_cases c200 : t125 = true
          ·subst c200
           replace H := sh_t H
           by_cases c201 : t126 = true
           ·subst c201
            replace H := sh_t H
            have H' := Aside0.mk H
            clear H
            have hnb202 := NB127_114.out
            have hnc202 := NB114_127.out
            have hnb203 := NB127_115.out
            have hnc203 := NB115_127.out
            have hnb204 := NB127_121.out
            have hnc204 := NB121_127.out
            have hcz205 := blk_all5 BK127.out
            have hnb206 := NB114_115.out
            have hnc206 := NB115_114.out
            have hnb207 := NB114_121.out
            have hnc207 := NB121_114.out
            have hcz208 := blk_all5 BK114.out
            have hnb209 := NB121_115.out
            have hnc209 := NB115_121.out
            have hcz210 := blk_all5 BK121.out
            go_wp2
            go_meet
            case rel => exact ⟨_, (false), eq_now, H', ⟨by have := HJ14.out; first | omega | exact Nat.le_refl _⟩, ⟨bk_now⟩, ⟨bk_now⟩, ⟨bk_now⟩, ⟨bk_now⟩, ⟨b_now⟩⟩
           ·replace c201 := Bool.eq_false_iff.mpr c201
            subst c201
            replace H := sh_f H
            have H' := Aside0.mk H
            clear H
            have hnb211 := NB127_114.out
            have hnc211 := NB114_127.out
            have hnb212 := NB127_115.out
            have hnc212 := NB115_127.out
            have hnb213 := NB127_121.out
            have hnc213 := NB121_127.out
            have hcz214 := blk_all5 BK127.out
            have hnb215 := NB114_115.out
            have hnc215 := NB115_114.out
            have hnb216 := NB114_121.out
            have hnc216 := NB121_114.out
            have hcz217 := blk_all5 BK114.out
            have hnb218 := NB121_115.out
            have hnc218 := NB115_121.out
            have hcz219 := blk_all5 BK121.out
            go_wp2
            go_meet
            case rel => exact ⟨_, ((a0_4 != 0)), eq_now, H', ⟨by have := HJ14.out; first | omega | exact Nat.le_refl _⟩, ⟨bk_now⟩, ⟨bk_now⟩, ⟨bk_now⟩, ⟨bk_now⟩, ⟨b_now⟩⟩
          ·replace c200 := Bool.eq_false_iff.mpr c200
           subst c200
           replace H := sh_f H
           by_cases c220 : a0_3 = 0
           ·rw [if_pos c220] at H
            have c220b0 : (a0_3 == 0) = true := beq_iff_eq.mpr c220
            have c220b1 : (a0_3 != 0) = false := bne_eq_false_iff_eq.mpr c220
            clear c220
            by_cases c221 : t126 = true
            ·subst c221
             replace H := sh_t H
             have H' := Aside0.mk H
             clear H
             have hnb222 := NB127_114.out
             have hnc222 := NB114_127.out
             have hnb223 := NB127_115.out
             have hnc223 := NB115_127.out
             have hnb224 := NB127_121.out
             have hnc224 := NB121_127.out
             have hcz225 := blk_all5 BK127.out
             have hnb226 := NB114_115.out
             have hnc226 := NB115_114.out
             have hnb227 := NB114_121.out
             have hnc227 := NB121_114.out
             have hcz228 := blk_all5 BK114.out
             have hnb229 := NB121_115.out
             have hnc229 := NB115_121.out
             have hcz230 := blk_all5 BK121.out
             go_wp2
             go_meet
             case rel => exact ⟨_, (false), eq_now, H', ⟨by have := HJ14.out; first | omega | exact Nat.le_refl _⟩, ⟨bk_now⟩, ⟨bk_now⟩, ⟨bk_now⟩, ⟨bk_now⟩, ⟨b_now⟩⟩
            ·replace c221 := Bool.eq_false_iff.mpr c221
             subst c221
             replace H := sh_f H
             have H' := Aside0.mk H
             clear H
             have hnb231 := NB127_114.out
             have hnc231 := NB114_127.out
             have hnb232 := NB127_115.out
             have hnc232 := NB115_127.out
             have hnb233 := NB127_121.out
             have hnc233 := NB121_127.out
             have hcz234 := blk_all5 BK127.out
             have hnb235 := NB114_115.out
             have hnc235 := NB115_114.out
             have hnb236 := NB114_121.out
             have hnc236 := NB121_114.out
             have hcz237 := blk_all5 BK114.out
             have hnb238 := NB121_115.out
             have hnc238 := NB115_121.out
             have hcz239 := blk_all5 BK121.out
             go_wp2
             go_meet
             case rel => exact ⟨_, ((a0_4 != 0)), eq_now, H', ⟨by have := HJ14.out; first | omega | exact Nat.le_refl _⟩, ⟨bk_now⟩, ⟨bk_now⟩, ⟨bk_now⟩, ⟨bk_now⟩, ⟨b_now⟩⟩
           ·rw [if_neg c220] at H
            have c220b0 : (a0_3 == 0) = false := beq_eq_false_iff_ne.mpr c220
            have c220b1 : (a0_3 != 0) = true := bne_iff_ne.mpr c220
            have H' := Aside0.mk H
            clear H
            have hnb240 := NB127_114.out
            have hnc240 := NB114_127.out
            have hnb241 := NB127_115.out
            have hnc241 := NB115_127.out
            have hnb242 := NB127_121.out
            have hnc242 := NB121_127.out
            have hcz243 := blk_all5 BK127.out
            have hnb244 := NB114_115.out
            have hnc244 := NB115_114.out
            have hnb245 := NB114_121.out
            have hnc245 := NB121_114.out
            have hcz246 := blk_all5 BK114.out
            have hnb247 := NB121_115.out
            have hnc247 := NB115_121.out
            have hcz248 := blk_all5 BK121.out
            go_wp2
            go_meet
            case rel => exact ⟨_, (true), eq_now, H', ⟨by have := HJ14.out; first | omega | exact Nat.le_refl _⟩, ⟨bk_now⟩, ⟨bk_now⟩, ⟨bk_now⟩, ⟨bk_now⟩, ⟨b_now⟩⟩
         ·rw [if_neg c199] at H
          have c199b0 : (t116 == 11) = false := beq_eq_false_iff_ne.mpr c199
          have c199b1 : (t116 != 11) = true := bne_iff_ne.mpr c199
          have H' := Aside0.mk H
          clear H
          have hnb249 := NB127_114.out
          have hnc249 := NB114_127.out
          have hnb250 := NB127_115.out
          have hnc250 := NB115_127.out
          have hnb251 := NB127_121.out
          have hnc251 := NB121_127.out
          have hcz252 := blk_all5 BK127.out
          have hnb253 := NB114_115.out
          have hnc253 := NB115_114.out
          have hnb254 := NB114_121.out
          have hnc254 := NB121_114.out
          have hcz255 := blk_all5 BK114.out
          have hnb256 := NB121_115.out
          have hnc256 := NB115_121.out
          have hcz257 := blk_all5 BK121.out
          go_wp2
          go_meet
          case rel => exact ⟨_, (true), eq_now, H', ⟨by have := HJ14.out; first | omega | exact Nat.le_refl _⟩, ⟨bk_now⟩, ⟨bk_now⟩, ⟨bk_now⟩, ⟨bk_now⟩, ⟨b_now⟩⟩
      ·replace c121 := Bool.eq_false_iff.mpr c121
       subst c121
       replace H := sh_f H
       by_cases c258 : a0_1 = 0
       ·rw [if_pos c258] at H
        have c258b0 : (a0_1 == 0) = true := beq_iff_eq.mpr c258
        have c258b1 : (a0_1 != 0) = false := bne_eq_false_iff_eq.mpr c258
        clear c258
        by_cases c259 : t124 = true
        ·subst c259
         replace H := sh_t H
         by_cases c260 : t125 = true
         ·subst c260
          replace H := sh_t H
          by_cases c261 : t126 = true
          ·subst c261
           replace H := sh_t H
           have H' := Aside0.mk H
           clear H
           have hnb262 := NB127_114.out
           have hnc262 := NB114_127.out
           have hnb263 := NB127_115.out
           have hnc263 := NB115_127.out
           have hnb264 := NB127_121.out
           have hnc264 := NB121_127.out
           have hcz265 := blk_all5 BK127.out
           have hnb266 := NB114_115.out
           have hnc266 := NB115_114.out
           have hnb267 := NB114_121.out
           have hnc267 := NB121_114.out
           have hcz268 := blk_all5 BK114.out
           go_wp2
           go_meet
           case rel => exact ⟨_, (false), eq_now, H', ⟨by have := HJ14.out; first | omega | exact Nat.le_refl _⟩, ⟨bk_now⟩, ⟨bk_now⟩, ⟨bk_now⟩, ⟨bk_now⟩, ⟨b_now⟩⟩
          ·replace c261 := Bool.eq_false_iff.mpr c261
           subst c261
           replace H := sh_f H
           have H' := Aside0.mk H
           clear H
           have hnb269 := NB127_114.out
           have hnc269 := NB114_127.out
           have hnb270 := NB127_115.out
           have hnc270 := NB115_127.out
           have hnb271 := NB127_121.out
           have hnc271 := NB121_127.out
           have hcz272 := blk_all5 BK127.out
           have hnb273 := NB114_115.out
           have hnc273 := NB115_114.out
           have hnb274 := NB114_121.out
           have hnc274 := NB121_114.out
           have hcz275 := blk_all5 BK114.out
           go_wp2
           go_meet
           case rel => exact ⟨_, ((a0_4 != 0)), eq_now, H', ⟨by have := HJ14.out; first | omega | exact Nat.le_refl _⟩, ⟨bk_now⟩, ⟨bk_now⟩, ⟨bk_now⟩, ⟨bk_now⟩, ⟨b_now⟩⟩
         ·replace c260 := Bool.eq_false_iff.mpr c260
          subst c260
          replace H := sh_f H
          by_cases c276 : a0_3 = 0
          ·rw [if_pos c276] at H
           have c276b0 : (a0_3 == 0) = true := beq_iff_eq.mpr c276
           have c276b1 : (a0_3 != 0) = false := bne_eq_false_iff_eq.mpr c276
           clear c276
           by_cases c277 : t126 = true
           ·subst c277
            replace H := sh_t H
            have H' := Aside0.mk H
            clear H
            have hnb278 := NB127_114.out
            have hnc278 := NB114_127.out
            have hnb279 := NB127_115.out
            have hnc279 := NB115_127.out
            have hnb280 := NB127_121.out
            have hnc280 := NB121_127.out
            have hcz281 := blk_all5 BK127.out
            have hnb282 := NB114_115.out
            have hnc282 := NB115_114.out
            have hnb283 := NB114_121.out
            have hnc283 := NB121_114.out
            have hcz284 := blk_all5 BK114.out
            go_wp2
            go_meet
            case rel => exact ⟨_, (false), eq_now, H', ⟨by have := HJ14.out; first | omega | exact Nat.le_refl _⟩, ⟨bk_now⟩, ⟨bk_now⟩, ⟨bk_now⟩, ⟨bk_now⟩, ⟨b_now⟩⟩
           ·replace c277 := Bool.eq_false_iff.mpr c277
            subst c277
            replace H := sh_f H
            have H' := Aside0.mk H
            clear H
            have hnb285 := NB127_114.out
            have hnc285 := NB114_127.out
            have hnb286 := NB127_115.out
            have hnc286 := NB115_127.out
            have hnb287 := NB127_121.out
            have hnc287 := NB121_127.out
            have hcz288 := blk_all5 BK127.out
            have hnb289 := NB114_115.out
            have hnc289 := NB115_114.out
            have hnb290 := NB114_121.out
            have hnc290 := NB121_114.out
            have hcz291 := blk_all5 BK114.out
            go_wp2
            go_meet
            case rel => exact ⟨_, ((a0_4 != 0)), eq_now, H', ⟨by have := HJ14.out; first | omega | exact Nat.le_refl _⟩, ⟨bk_now⟩, ⟨bk_now⟩, ⟨bk_now⟩, ⟨bk_now⟩, ⟨b_now⟩⟩
          ·rw [if_neg c276] at H
           have c276b0 : (a0_3 == 0) = false := beq_eq_false_iff_ne.mpr c276
           have c276b1 : (a0_3 != 0) = true := bne_iff_ne.mpr c276
           have H' := Aside0.mk H
           clear H
           have hnb292 := NB127_114.out
           have hnc292 := NB114_127.out
           have hnb293 := NB127_115.out
           have hnc293 := NB115_127.out
           have hnb294 := NB127_121.out
           have hnc294 := NB121_127.out
           have hcz295 := blk_all5 BK127.out
           have hnb296 := NB114_115.out
           have hnc296 := NB115_114.out
           have hnb297 := NB114_121.out
           have hnc297 := NB121_114.out
           have hcz298 := blk_all5 BK114.out
           go_wp2
           go_meet
           case rel => exact ⟨_, (true), eq_now, H', ⟨by have := HJ14.out; first | omega | exact Nat.le_refl _⟩, ⟨bk_now⟩, ⟨bk_now⟩, ⟨bk_now⟩, ⟨bk_now⟩, ⟨b_now⟩⟩
        ·replace c259 := Bool.eq_false_iff.mpr c259
         subst c259
         replace H := sh_f H
         by_cases c299 : a0_2 = 0
         ·rw [if_pos c299] at H
          have c299b0 : (a0_2 == 0) = true := beq_iff_eq.mpr c299
          have c299b1 : (a0_2 != 0) = false := bne_eq_false_iff_eq.mpr c299
          clear c299
          by_cases c300 : t125 = true
          ·subst c300
           replace H := sh_t H
           by_cases c301 : t126 = true
           ·subst c301
            replace H := sh_t H
            have H' := Aside0.mk H
            clear H
            have hnb302 := NB127_114.out
            have hnc302 := NB114_127.out
            have hnb303 := NB127_115.out
            have hnc303 := NB115_127.out
            have hnb304 := NB127_121.out
            have hnc304 := NB121_127.out
            have hcz305 := blk_all5 BK127.out
            have hnb306 := NB114_115.out
            have hnc306 := NB115_114.out
            have hnb307 := NB114_121.out
            have hnc307 := NB121_114.out
            have hcz308 := blk_all5 BK114.out
            go_wp2
            go_meet
            case rel => exact ⟨_, (false), eq_now, H', ⟨by have := HJ14.out; first | omega | exact Nat.le_refl _⟩, ⟨bk_now⟩, ⟨bk_now⟩, ⟨bk_now⟩, ⟨bk_now⟩, ⟨b_now⟩⟩
           ·replace c301 := Bool.eq_false_iff.mpr c301
            subst c301
            replace H := sh_f H
            have H' := Aside0.mk H
            clear H
            have hnb309 := NB127_114.out
            have hnc309 := NB114_127.out
            have hnb310 := NB127_115.out
            have hnc310 := NB115_127.out
            have hnb311 := NB127_121.out
            have hnc311 := NB121_127.out
            have hcz312 := blk_all5 BK127.out
            have hnb313 := NB114_115.out
            have hnc313 := NB115_114.out
            have hnb314 := NB114_121.out
            have hnc314 := NB121_114.out
            have hcz315 := blk_all5 BK114.out
            go_wp2
            go_meet
            case rel => exact ⟨_, ((a0_4 != 0)), eq_now, H', ⟨by have := HJ14.out; first | omega | exact Nat.le_refl _⟩, ⟨bk_now⟩, ⟨bk_now⟩, ⟨bk_now⟩, ⟨bk_now⟩, ⟨b_now⟩⟩
          ·replace c300 := Bool.eq_false_iff.mpr c300
           subst c300
           replace H := sh_f H
           by_cases c316 : a0_3 = 0
           ·rw [if_pos c316] at H
            have c316b0 : (a0_3 == 0) = true := beq_iff_eq.mpr c316
            have c316b1 : (a0_3 != 0) = false := bne_eq_false_iff_eq.mpr c316
            clear c316
            by_cases c317 : t126 = true
            ·subst c317
             replace H := sh_t H
             have H' := Aside0.mk H
             clear H
             have hnb318 := NB127_114.out
             have hnc318 := NB114_127.out
             have hnb319 := NB127_115.out
             have hnc319 := NB115_127.out
             have hnb320 := NB127_121.out
             have hnc320 := NB121_127.out
             have hcz321 := blk_all5 BK127.out
             have hnb322 := NB114_115.out
             have hnc322 := NB115_114.out
             have hnb323 := NB114_121.out
             have hnc323 := NB121_114.out
             have hcz324 := blk_all5 BK114.out
             go_wp2
             go_meet
             case rel => exact ⟨_, (false), eq_now, H', ⟨by have := HJ14.out; first | omega | exact Nat.le_refl _⟩, ⟨bk_now⟩, ⟨bk_now⟩, ⟨bk_now⟩, ⟨bk_now⟩, ⟨b_now⟩⟩
            ·replace c317 := Bool.eq_false_iff.mpr c317
             subst c317
             replace H := sh_f H
             have H' := Aside0.mk H
             clear H
             have hnb325 := NB127_114.out
             have hnc325 := NB114_127.out
             have hnb326 := NB127_115.out
             have hnc326 := NB115_127.out
             have hnb327 := NB127_121.out
             have hnc327 := NB121_127.out
             have hcz328 := blk_all5 BK127.out
             have hnb329 := NB114_115.out
             have hnc329 := NB115_114.out
             have hnb330 := NB114_121.out
             have hnc330 := NB121_114.out
             have hcz331 := blk_all5 BK114.out
             go_wp2
             go_meet
             case rel => exact ⟨_, ((a0_4 != 0)), eq_now, H', ⟨by have := HJ14.out; first | omega | exact Nat.le_refl _⟩, ⟨bk_now⟩, ⟨bk_now⟩, ⟨bk_now⟩, ⟨bk_now⟩, ⟨b_now⟩⟩
           ·rw [if_neg c316] at H
            have c316b0 : (a0_3 == 0) = false := beq_eq_false_iff_ne.mpr c316
            have c316b1 : (a0_3 != 0) = true := bne_iff_ne.mpr c316
            have H' := Aside0.mk H
            clear H
            have hnb332 := NB127_114.out
            have hnc332 := NB114_127.out
            have hnb333 := NB127_115.out
            have hnc333 := NB115_127.out
            have hnb334 := NB127_121.out
            have hnc334 := NB121_127.out
            have hcz335 := blk_all5 BK127.out
            have hnb336 := NB114_115.out
            have hnc336 := NB115_114.out
            have hnb337 := NB114_121.out
            have hnc337 := NB121_114.out
            have hcz338 := blk_all5 BK114.out
            go_wp2
            go_meet
            case rel => exact ⟨_, (true), eq_now, H', ⟨by have := HJ14.out; first | omega | exact Nat.le_refl _⟩, ⟨bk_now⟩, ⟨bk_now⟩, ⟨bk_now⟩, ⟨bk_now⟩, ⟨b_now⟩⟩
         ·rw [if_neg c299] at H
          have c299b0 : (a0_2 == 0) = false := beq_eq_false_iff_ne.mpr c299
          have c299b1 : (a0_2 != 0) = true := bne_iff_ne.mpr c299
          by_cases c339 : t116 = 11
          ·rw [if_pos c339] at H
           have c339b0 : (t116 == 11) = true := beq_iff_eq.mpr c339
           have c339b1 : (t116 != 11) = false := bne_eq_false_iff_eq.mpr c339
           clear c339
           by_cases c340 : t125 = true
           ·subst c340
            replace H := sh_t H
            by_cases c341 : t126 = true
            ·subst c341
             replace H := sh_t H
             have H' := Aside0.mk H
             clear H
             have hnb342 := NB127_114.out
             have hnc342 := NB114_127.out
             have hnb343 := NB127_115.out
             have hnc343 := NB115_127.out
             have hnb344 := NB127_121.out
             have hnc344 := NB121_127.out
             have hcz345 := blk_all5 BK127.out
             have hnb346 := NB114_115.out
             have hnc346 := NB115_114.out
             have hnb347 := NB114_121.out
             have hnc347 := NB121_114.out
             have hcz348 := blk_all5 BK114.out
             have hnb349 := NB121_115.out
             have hnc349 := NB115_121.out
             have hcz350 := blk_all5 BK121.out
             go_wp2
             go_meet
             case rel => exact ⟨_, (false), eq_now, H', ⟨by have := HJ14.out; first | omega | exact Nat.le_refl _⟩, ⟨bk_now⟩, ⟨bk_now⟩, ⟨bk_now⟩, ⟨bk_now⟩, ⟨b_now⟩⟩
            ·replace c341 := Bool.eq_false_iff.mpr c341
             subst c341
             replace H := sh_f H
             have H' := Aside0.mk H
             clear H
             have hnb351 := NB127_114.out
             have hnc351 := NB114_127.out
             have hnb352 := NB127_115.out
             have hnc352 := NB115_127.out
             have hnb353 := NB127_121.out
             have hnc353 := NB121_127.out
             have hcz354 := blk_all5 BK127.out
             have hnb355 := NB114_115.out
             have hnc355 := NB115_114.out
             have hnb356 := NB114_121.out
             have hnc356 := NB121_114.out
             have hcz357 := blk_all5 BK114.out
             have hnb358 := NB121_115.out
             have hnc358 := NB115_121.out
             have hcz359 := blk_all5 BK121.out
             go_wp2
             go_meet
             case rel => exact ⟨_, ((a0_4 != 0)), eq_now, H', ⟨by have := HJ14.out; first | omega | exact Nat.le_refl _⟩, ⟨bk_now⟩, ⟨bk_now⟩, ⟨bk_now⟩, ⟨bk_now⟩, ⟨b_now⟩⟩
           ·replace c340 := Bool.eq_false_iff.mpr c340
            subst c340
            replace H := sh_f H
            by_cases c360 : a0_3 = 0
            ·rw [if_pos c360] at H
             have c360b0 : (a0_3 == 0) = true := beq_iff_eq.mpr c360
             have c360b1 : (a0_3 != 0) = false := bne_eq_false_iff_eq.mpr c360
             clear c360
             by_cases c361 : t126 = true
             ·subst c361
              replace H := sh_t H
              have H' := Aside0.mk H
              clear H
              have hnb362 := NB127_114.out
              have hnc362 := NB114_127.out
              have hnb363 := NB127_115.out
              have hnc363 := NB115_127.out
              have hnb364 := NB127_121.out
              have hnc364 := NB121_127.out
              have hcz365 := blk_all5 BK127.out
              have hnb366 := NB114_115.out
              have hnc366 := NB115_114.out
              have hnb367 := NB114_121.out
              have hnc367 := NB121_114.out
              have hcz368 := blk_all5 BK114.out
              have hnb369 := NB121_115.out
              have hnc369 := NB115_121.out
              have hcz370 := blk_all5 BK121.out
              go_wp2
              go_meet
              case rel => exact ⟨_, (false), eq_now, H', ⟨by have := HJ14.out; first | omega | exact Nat.le_refl _⟩, ⟨bk_now⟩, ⟨bk_now⟩, ⟨bk_now⟩, ⟨bk_now⟩, ⟨b_now⟩⟩
             ·replace c361 := Bool.eq_false_iff.mpr c361
              subst c361
              replace H := sh_f H
              have H' := Aside0.mk H
              clear H
              have hnb371 := NB127_114.out
              have hnc371 := NB114_127.out
              have hnb372 := NB127_115.out
              have hnc372 := NB115_127.out
              have hnb373 := NB127_121.out
              have hnc373 := NB121_127.out
              have hcz374 := blk_all5 BK127.out
              have hnb375 := NB114_115.out
              have hnc375 := NB115_114.out
              have hnb376 := NB114_121.out
              have hnc376 := NB121_114.out
              have hcz377 := blk_all5 BK114.out
              have hnb378 := NB121_115.out
              have hnc378 := NB115_121.out
              have hcz379 := blk_all5 BK121.out
              go_wp2
              go_meet
              case rel => exact ⟨_, ((a0_4 != 0)), eq_now, H', ⟨by have := HJ14.out; first | omega | exact Nat.le_refl _⟩, ⟨bk_now⟩, ⟨bk_now⟩, ⟨bk_now⟩, ⟨bk_now⟩, ⟨b_now⟩⟩
            ·rw [if_neg c360] at H
             have c360b0 : (a0_3 == 0) = false := beq_eq_false_iff_ne.mpr c360
             have c360b1 : (a0_3 != 0) = true := bne_iff_ne.mpr c360
             have H' := Aside0.mk H
             clear H
             have hnb380 := NB127_114.out
             have hnc380 := NB114_127.out
             have hnb381 := NB127_115.out
             have hnc381 := NB115_127.out
             have hnb382 := NB127_121.out
             have hnc382 := NB121_127.out
             have hcz383 := blk_all5 BK127.out
             have hnb384 := NB114_115.out
             have hnc384 := NB115_114.out
             have hnb385 := NB114_121.out
             have hnc385 := NB121_114.out
             have hcz386 := blk_all5 BK114.out
             have hnb387 := NB121_115.out
             have hnc387 := NB115_121.out
             have hcz388 := blk_all5 BK121.out
             go_wp2
             go_meet
             case rel => exact ⟨_, (true), eq_now, H', ⟨by have := HJ14.out; first | omega | exact Nat.le_refl _⟩, ⟨bk_now⟩, ⟨bk_now⟩, ⟨bk_now⟩, ⟨bk_now⟩, ⟨b_now⟩⟩
          ·rw [if_neg c339] at H
           have c339b0 : (t116 == 11) = false := beq_eq_false_iff_ne.mpr c339
           have c339b1 : (t116 != 11) = true := bne_iff_ne.mpr c339
           have H' := Aside0.mk H
           clear H
           have hnb389 := NB127_114.out
           have hnc389 := NB114_127.out
           have hnb390 := NB127_115.out
           have hnc390 := NB115_127.out
           have hnb391 := NB127_121.out
           have hnc391 := NB121_127.out
           have hcz392 := blk_all5 BK127.out
           have hnb393 := NB114_115.out
           have hnc393 := NB115_114.out
           have hnb394 := NB114_121.out
           have hnc394 := NB121_114.out
           have hcz395 := blk_all5 BK114.out
           have hnb396 := NB121_115.out
           have hnc396 := NB115_121.out
           have hcz397 := blk_all5 BK121.out
           go_wp2
           go_meet
           case rel => exact ⟨_, (true), eq_now, H', ⟨by have := HJ14.out; first | omega | exact Nat.le_refl _⟩, ⟨bk_now⟩, ⟨bk_now⟩, ⟨bk_now⟩, ⟨bk_now⟩, ⟨b_now⟩⟩
       ·rw [if_neg c258] at H
        have c258b0 : (a0_1 == 0) = false := beq_eq_false_iff_ne.mpr c258
        have c258b1 : (a0_1 != 0) = true := bne_iff_ne.mpr c258
        have H' := Aside0.mk H
        clear H
        have hnb398 := NB127_114.out
        have hnc398 := NB114_127.out
        have hnb399 := NB127_115.out
        have hnc399 := NB115_127.out
        have hnb400 := NB127_121.out
        have hnc400 := NB121_127.out
        have hcz401 := blk_all5 BK127.out
        have hnb402 := NB114_115.out
        have hnc402 := NB115_114.out
        have hnb403 := NB114_121.out
        have hnc403 := NB121_114.out
        have hcz404 := blk_all5 BK114.out
        go_wp2
        go_meet
        case rel => exact ⟨_, (true), eq_now, H', ⟨by have := HJ14.out; first | omega | exact Nat.le_refl _⟩, ⟨bk_now⟩, ⟨bk_now⟩, ⟨bk_now⟩, ⟨bk_now⟩, ⟨b_now⟩⟩
     case rest =>
      clear HC120
      try clear c2
      try clear p2
      try clear c3
      try clear c4
      try clear c25
      try clear c29
      try clear c30
      try clear c31
      try clear c32
      try clear c33
      try clear c34
      try clear c35
      try clear c36
      try clear c37
      try clear c38
      try clear c39
      try clear c40
      try clear c258
      try clear c258b0
      try clear c258b1
      try clear c299
      try clear c299b0
      try clear c299b1
      try clear c300
      try clear c301
      try clear c302
      try clear c303
      try clear c304
      try clear c306
      try clear c307
      try clear c309
      try clear c310
      try clear c311
      try clear c313
      try clear c314
      try clear c316
      try clear c316b0
      try clear c316b1
      try clear c317
      try clear c318
      try clear c319
      try clear c320
      try clear c322
      try clear c323
      try clear c325
      try clear c326
      try clear c327
      try clear c329
      try clear c330
      try clear c332
      try clear c333
      try clear c334
      try clear c336
      try clear c337
      try clear c339
      try clear c339b0
      try clear c339b1
      try clear c340
      try clear c341
      try clear c342
      try clear c343
      try clear c344
      try clear c346
      try clear c347
      try clear c349
      try clear c351
      try clear c352
      try clear c353
      try clear c355
      try clear c356
      try clear c358
      try clear c360
      try clear c360b0
      try clear c360b1
      try clear c361
      try clear c362
      try clear c363
      try clear c364
      try clear c366
      try clear c367
      try clear c369
      try clear c371
      try clear c372
      try clear c373
      try clear c375
      try clear c376
      try clear c378
      try clear c380
      try clear c381
      try clear c382
      try clear c384
      try clear c385
      try clear c387
      try clear c389
      try clear c390
      try clear c391
      try clear c393
      try clear c394
      try clear c396
      try clear c398
      try clear c399
      try clear c400
      try clear c402
      try clear c403
      try clear hcz305
      try clear hcz308
      try clear hcz312
      try clear hcz315
      try clear hcz321
      try clear hcz324
      try clear hcz328
      try clear hcz331
      try clear hcz335
      try clear hcz338
      try clear hcz345
      try clear hcz348
      try clear hcz350
      try clear hcz354
      try clear hcz357
      try clear hcz359
      try clear hcz365
      try clear hcz368
      try clear hcz370
      try clear hcz374
      try clear hcz377
      try clear hcz379
      try clear hcz383
      try clear hcz386
      try clear hcz388
      try clear hcz392
      try clear hcz395
      try clear hcz397
      try clear hcz401
      try clear hcz404
      obtain ⟨kq, x82_119, rfl, HA, HJ119, BK114, BK115, BK121, BK127, HB⟩ := hcut
      cases kq with
      | zero => exact absurd HA.out (by simp [insn_Of.j1])
      | succ kj119 =>
       have H := HA.out
       clear HA
       simp only [insn_Of.j1] at H
       by_cases c405 : x82_119 = true
       ·subst c405
        replace H := sh_t H
        simp only [Option.some.injEq, Prod.mk.injEq] at H
        obtain ⟨rfl, rfl, rfl, rfl, rfl, rfl⟩ := H
        have hnb406 := NB115_114.out
        have hnc406 := NB114_115.out
        have hnb407 := NB115_121.out
        have hnc407 := NB121_115.out
        have hnb408 := NB115_127.out
        have hnc408 := NB127_115.out
        have hcz409 := blk_all5 BK115.out
        go_wp2
        refine bodyPost_ret (results_ct rfl _ _ gb115 26 #[.int .i64 0, .int .i64 0, .int .i64 0, .bool false, .bool false] (0, 0) _ rfl bk_now Tryd.underlying26 rfl (by kernel_rfl)) rfl ?_
        exact ⟨ret_now, b_now⟩
       ·replace c405 := Bool.eq_false_iff.mpr c405
        subst c405
        replace H := sh_f H
        simp only [Option.some.injEq, Prod.mk.injEq] at H
        obtain ⟨rfl, rfl, rfl, rfl, rfl, rfl⟩ := H
        have hnb410 := NB121_114.out
        have hnc410 := NB114_121.out
        have hnb411 := NB121_115.out
        have hnc411 := NB115_121.out
        have hnb412 := NB121_127.out
        have hnc412 := NB127_121.out
        have hcz413 := blk_all5 BK121.out
        have hnb414 := NB115_114.out
        have hnc414 := NB114_115.out
        have hnb415 := NB115_127.out
        have hnc415 := NB127_115.out
        have hcz416 := blk_all5 BK115.out
        go_wp2
        refine bodyPost_ret (results_ct rfl _ _ gb115 26 #[.int .i64 t116, .int .i64 t117, .int .i64 t118, .bool t119, .bool t120] (0, 0) _ rfl bk_now Tryd.underlying26 rfl (by kernel_rfl)) rfl ?_
        exact ⟨ret_now, b_now⟩

end Go.Proofs.YtkojjjdeacdabaaDoor.P
