/- Made by this session's driver over the kit's printer: for each Go function a Lean function with the same answers, and a proof that the Go call comes to these answers; no conditions but the ones each theorem names. -/
import Derived.Test.YtkjcjlegokdpdaaDoorPx0
import Derived.Test.YtkjcjlegokdpdaaDoorPx2
import Derived.Test.YtkjcjlegokdpdaaDoorPx3
import Derived.Test.YtkjcjlegokdpdaaDoorPx4
namespace Go.Proofs.YtkjcjlegokdpdaaDoor.P
open Go.RowKit Go.Proofs.YtkjcjlegokdpdaaDoorW.PrintWords Go.Proofs.YtkjcjlegokdpdaaDoorW.PrintLast Go.Proofs.YtkjcjlegokdpdaaDoorW.PrintMore
attribute [local go_sem] max2_int min2_int max_two min_two max_three min_three max_four min_four   -- for this text's walks alone
set_option linter.unusedVariables false
set_option linter.unusedSimpArgs false

attribute [local go_sem high] eqA63
/-! ### insn_Of: function 34 -/
def insn_Of.j0 : Nat → Bool → Int → Int → Int → Int → Int → Int → Int → Int → Bool → Bool → Bool → Bool → Bool → Bool → Bool → Option (Int × Int × Int × Bool × Bool × Int)
 | 0, _, _, _, _, _, _, _, _, _, _, _, _, _, _, _, _ => none
 | k + 1, x38, x115000, x115001, x115002, x115003, x115004, x122000, x122001, x122002, x122003, x122004, x128000, x128001, x128002, x128003, x128004 => if x38 = true then (some (0, 0, 0, false, false, 21)) else (if x128000 = true then (if x128002 = true then (if x128003 = true then (if x128004 = true then (some (x122000, x122001, x122002, x122003, x122004, 0)) else (if x115004 = 0 then (some (x122000, x122001, x122002, x122003, x122004, 0)) else (some (0, 0, 0, false, false, 22)))) else (if x115003 = 0 then (if x128004 = true then (some (x122000, x122001, x122002, x122003, x122004, 0)) else (if x115004 = 0 then (some (x122000, x122001, x122002, x122003, x122004, 0)) else (some (0, 0, 0, false, false, 22)))) else (some (0, 0, 0, false, false, 22)))) else (if x115002 = 0 then (if x128003 = true then (if x128004 = true then (some (x122000, x122001, x122002, x122003, x122004, 0)) else (if x115004 = 0 then (some (x122000, x122001, x122002, x122003, x122004, 0)) else (some (0, 0, 0, false, false, 22)))) else (if x115003 = 0 then (if x128004 = true then (some (x122000, x122001, x122002, x122003, x122004, 0)) else (if x115004 = 0 then (some (x122000, x122001, x122002, x122003, x122004, 0)) else (some (0, 0, 0, false, false, 22)))) else (some (0, 0, 0, false, false, 22)))) else (if x122000 = 11 then (if x128003 = true then (if x128004 = true then (some (x122000, x122001, x122002, x122003, x122004, 0)) else (if x115004 = 0 then (some (x122000, x122001, x122002, x122003, x122004, 0)) else (some (0, 0, 0, false, false, 22)))) else (if x115003 = 0 then (if x128004 = true then (some (x122000, x122001, x122002, x122003, x122004, 0)) else (if x115004 = 0 then (some (x122000, x122001, x122002, x122003, x122004, 0)) else (some (0, 0, 0, false, false, 22)))) else (some (0, 0, 0, false, false, 22)))) else (some (0, 0, 0, false, false, 22))))) else (if x115001 = 0 then (if x128002 = true then (if x128003 = true then (if x128004 = true then (some (x122000, x122001, x122002, x122003, x122004, 0)) else (if x115004 = 0 then (some (x122000, x122001, x122002, x122003, x122004, 0)) else (some (0, 0, 0, false, false, 22)))) else (if x115003 = 0 then (if x128004 = true then (some (x122000, x122001, x122002, x122003, x122004, 0)) else (if x115004 = 0 then (some (x122000, x122001, x122002, x122003, x122004, 0)) else (some (0, 0, 0, false, false, 22)))) else (some (0, 0, 0, false, false, 22)))) else (if x115002 = 0 then (if x128003 = true then (if x128004 = true then (some (x122000, x122001, x122002, x122003, x122004, 0)) else (if x115004 = 0 then (some (x122000, x122001, x122002, x122003, x122004, 0)) else (some (0, 0, 0, false, false, 22)))) else (if x115003 = 0 then (if x128004 = true then (some (x122000, x122001, x122002, x122003, x122004, 0)) else (if x115004 = 0 then (some (x122000, x122001, x122002, x122003, x122004, 0)) else (some (0, 0, 0, false, false, 22)))) else (some (0, 0, 0, false, false, 22)))) else (if x122000 = 11 then (if x128003 = true then (if x128004 = true then (some (x122000, x122001, x122002, x122003, x122004, 0)) else (if x115004 = 0 then (some (x122000, x122001, x122002, x122003, x122004, 0)) else (some (0, 0, 0, false, false, 22)))) else (if x115003 = 0 then (if x128004 = true then (some (x122000, x122001, x122002, x122003, x122004, 0)) else (if x115004 = 0 then (some (x122000, x122001, x122002, x122003, x122004, 0)) else (some (0, 0, 0, false, false, 22)))) else (some (0, 0, 0, false, false, 22)))) else (some (0, 0, 0, false, false, 22))))) else (some (0, 0, 0, false, false, 22))))
def insn_Of.f (k : Nat) (a0_0 : Int) (a0_1 : Int) (a0_2 : Int) (a0_3 : Int) (a0_4 : Int) : Option (Int × Int × Int × Bool × Bool × Int) := (insn_kind.f k a0_0 a0_1 a0_2 a0_3 a0_4).bind fun bt116 => (if (bt116.1 == 0 && (bt116.2.1 == 0 && (bt116.2.2.1 == 0 && (!bt116.2.2.2.1 && (!bt116.2.2.2.2))))) = true then (some (0, 0, 0, false, false, 20)) else ((insn_fields.f k bt116.1 bt116.2.1 bt116.2.2.1 bt116.2.2.2.1 bt116.2.2.2.2).bind fun bt122 => (if bt122.1 = true then (if a0_1 > 10 then (insn_Of.j0 k true a0_0 a0_1 a0_2 a0_3 a0_4 bt116.1 bt116.2.1 bt116.2.2.1 bt116.2.2.2.1 bt116.2.2.2.2 bt122.1 bt122.2.1 bt122.2.2.1 bt122.2.2.2.1 bt122.2.2.2.2) else (if bt122.2.1 = true then (if a0_1 = 10 then (insn_Of.j0 k true a0_0 a0_1 a0_2 a0_3 a0_4 bt116.1 bt116.2.1 bt116.2.2.1 bt116.2.2.2.1 bt116.2.2.2.2 bt122.1 bt122.2.1 bt122.2.2.1 bt122.2.2.2.1 bt122.2.2.2.2) else (if bt122.2.2.1 = true then (insn_Of.j0 k (decide (a0_2 > 10)) a0_0 a0_1 a0_2 a0_3 a0_4 bt116.1 bt116.2.1 bt116.2.2.1 bt116.2.2.2.1 bt116.2.2.2.2 bt122.1 bt122.2.1 bt122.2.2.1 bt122.2.2.2.1 bt122.2.2.2.2) else (insn_Of.j0 k false a0_0 a0_1 a0_2 a0_3 a0_4 bt116.1 bt116.2.1 bt116.2.2.1 bt116.2.2.2.1 bt116.2.2.2.2 bt122.1 bt122.2.1 bt122.2.2.1 bt122.2.2.2.1 bt122.2.2.2.2))) else (if bt122.2.2.1 = true then (insn_Of.j0 k (decide (a0_2 > 10)) a0_0 a0_1 a0_2 a0_3 a0_4 bt116.1 bt116.2.1 bt116.2.2.1 bt116.2.2.2.1 bt116.2.2.2.2 bt122.1 bt122.2.1 bt122.2.2.1 bt122.2.2.2.1 bt122.2.2.2.2) else (insn_Of.j0 k false a0_0 a0_1 a0_2 a0_3 a0_4 bt116.1 bt116.2.1 bt116.2.2.1 bt116.2.2.2.1 bt116.2.2.2.2 bt122.1 bt122.2.1 bt122.2.2.1 bt122.2.2.2.1 bt122.2.2.2.2)))) else (if bt122.2.1 = true then (if a0_1 = 10 then (insn_Of.j0 k true a0_0 a0_1 a0_2 a0_3 a0_4 bt116.1 bt116.2.1 bt116.2.2.1 bt116.2.2.2.1 bt116.2.2.2.2 bt122.1 bt122.2.1 bt122.2.2.1 bt122.2.2.2.1 bt122.2.2.2.2) else (if bt122.2.2.1 = true then (insn_Of.j0 k (decide (a0_2 > 10)) a0_0 a0_1 a0_2 a0_3 a0_4 bt116.1 bt116.2.1 bt116.2.2.1 bt116.2.2.2.1 bt116.2.2.2.2 bt122.1 bt122.2.1 bt122.2.2.1 bt122.2.2.2.1 bt122.2.2.2.2) else (insn_Of.j0 k false a0_0 a0_1 a0_2 a0_3 a0_4 bt116.1 bt116.2.1 bt116.2.2.1 bt116.2.2.2.1 bt116.2.2.2.2 bt122.1 bt122.2.1 bt122.2.2.1 bt122.2.2.2.1 bt122.2.2.2.2))) else (if bt122.2.2.1 = true then (insn_Of.j0 k (decide (a0_2 > 10)) a0_0 a0_1 a0_2 a0_3 a0_4 bt116.1 bt116.2.1 bt116.2.2.1 bt116.2.2.2.1 bt116.2.2.2.2 bt122.1 bt122.2.1 bt122.2.2.1 bt122.2.2.2.1 bt122.2.2.2.2) else (insn_Of.j0 k false a0_0 a0_1 a0_2 a0_3 a0_4 bt116.1 bt116.2.1 bt116.2.2.1 bt116.2.2.2.1 bt116.2.2.2.2 bt122.1 bt122.2.1 bt122.2.2.1 bt122.2.2.2.1 bt122.2.2.2.2))))))
theorem insn_Of.mono_l : ∀ k, (∀ y0 y1 y2 y3 y4 y5 y6 y7 y8 y9 y10 y11 y12 y13 y14 y15, LeO (insn_Of.j0 k y0 y1 y2 y3 y4 y5 y6 y7 y8 y9 y10 y11 y12 y13 y14 y15) (insn_Of.j0 (k + 1) y0 y1 y2 y3 y4 y5 y6 y7 y8 y9 y10 y11 y12 y13 y14 y15))
 | 0 => fun _ _ _ _ _ _ _ _ _ _ _ _ _ _ _ _ r h => by simp [insn_Of.j0] at h
 | k + 1 => by
  have ih0 := insn_Of.mono_l k
  ·intro y0 y1 y2 y3 y4 y5 y6 y7 y8 y9 y10 y11 y12 y13 y14 y15
   unfold insn_Of.j0
   repeat' first
   | (with_reducible exact ih0 _ _ _ _ _ _ _ _ _ _ _ _ _ _ _ _)
   | (with_reducible exact insn_fields.mono _ _ _ _ _ _)
   | (with_reducible exact insn_kind.mono _ _ _ _ _ _)
   | (with_reducible exact LeO.refl _)
   | (with_reducible exact LeO.none _)
   | (with_reducible refine LeO.ite ?_ ?_)
   | (with_reducible refine LeO.bind ?_ (fun _ => ?_))
   | exact ih0 _ _ _ _ _ _ _ _ _ _ _ _ _ _ _ _
   | exact insn_fields.mono _ _ _ _ _ _
   | exact insn_kind.mono _ _ _ _ _ _
   | exact LeO.none _
   | refine LeO.ite ?_ ?_
   | refine LeO.bind ?_ (fun _ => ?_)
theorem insn_Of.mono : ∀ a0 a1 a2 a3 a4 k, LeO (insn_Of.f k a0 a1 a2 a3 a4) (insn_Of.f (k + 1) a0 a1 a2 a3 a4) := by
 intro a0 a1 a2 a3 a4 k
 have ih0 := insn_Of.mono_l k
 unfold insn_Of.f
 repeat' first
   | (with_reducible exact ih0 _ _ _ _ _ _ _ _ _ _ _ _ _ _ _ _)
   | (with_reducible exact insn_fields.mono _ _ _ _ _ _)
   | (with_reducible exact insn_kind.mono _ _ _ _ _ _)
   | (with_reducible exact LeO.refl _)
   | (with_reducible exact LeO.none _)
   | (with_reducible refine LeO.ite ?_ ?_)
   | (with_reducible refine LeO.bind ?_ (fun _ => ?_))
   | exact ih0 _ _ _ _ _ _ _ _ _ _ _ _ _ _ _ _
   | exact insn_fields.mono _ _ _ _ _ _
   | exact insn_kind.mono _ _ _ _ _ _
   | exact LeO.none _
   | refine LeO.ite ?_ ?_
   | refine LeO.bind ?_ (fun _ => ?_)
set_option maxHeartbeats 8000000 in
set_option maxRecDepth 100000 in
theorem insn_Of.calls (k : Nat) (a0_0 : Int) (a0_1 : Int) (a0_2 : Int) (a0_3 : Int) (a0_4 : Int) (r1 : Int) (r2 : Int) (r3 : Int) (r4 : Bool) (r5 : Bool) (r6 : Int) (w : World) (hrG0 : Kd.C (Kd.int .i64) w (some ⟨0, 0, none⟩) gl0.length gl0) (h : insn_Of.f k a0_0 a0_1 a0_2 a0_3 a0_4 = some (r1, r2, r3, r4, r5, r6)) :
  Calls Tryd.prog 34 #[.agg #[.int .u8 a0_0, .int .u8 a0_1, .int .u8 a0_2, .int .i16 a0_3, .int .i32 a0_4]] w fun e w' => e = .returned (.tuple #[.agg #[.int .i64 r1, .int .i64 r2, .int .i64 r3, .bool r4, .bool r5], .int .i64 r6]) ∧ Below w.heap.size w w' := by
 have hu44 := Tryd.underlying44
 have hu63 := Tryd.underlying63
 have hu78 := Tryd.underlying78
 have HRG0 := Aside0.mk hrG0
 clear hrG0
 have HB := Aside0.mk (Below.refl w.heap.size w)
 have H : ((insn_kind.f k a0_0 a0_1 a0_2 a0_3 a0_4).bind fun bt116 => (if (bt116.1 == 0 && (bt116.2.1 == 0 && (bt116.2.2.1 == 0 && (!bt116.2.2.2.1 && (!bt116.2.2.2.2))))) = true then (some (0, 0, 0, false, false, 20)) else ((insn_fields.f k bt116.1 bt116.2.1 bt116.2.2.1 bt116.2.2.2.1 bt116.2.2.2.2).bind fun bt122 => (if bt122.1 = true then (if a0_1 > 10 then (insn_Of.j0 k true a0_0 a0_1 a0_2 a0_3 a0_4 bt116.1 bt116.2.1 bt116.2.2.1 bt116.2.2.2.1 bt116.2.2.2.2 bt122.1 bt122.2.1 bt122.2.2.1 bt122.2.2.2.1 bt122.2.2.2.2) else (if bt122.2.1 = true then (if a0_1 = 10 then (insn_Of.j0 k true a0_0 a0_1 a0_2 a0_3 a0_4 bt116.1 bt116.2.1 bt116.2.2.1 bt116.2.2.2.1 bt116.2.2.2.2 bt122.1 bt122.2.1 bt122.2.2.1 bt122.2.2.2.1 bt122.2.2.2.2) else (if bt122.2.2.1 = true then (insn_Of.j0 k (decide (a0_2 > 10)) a0_0 a0_1 a0_2 a0_3 a0_4 bt116.1 bt116.2.1 bt116.2.2.1 bt116.2.2.2.1 bt116.2.2.2.2 bt122.1 bt122.2.1 bt122.2.2.1 bt122.2.2.2.1 bt122.2.2.2.2) else (insn_Of.j0 k false a0_0 a0_1 a0_2 a0_3 a0_4 bt116.1 bt116.2.1 bt116.2.2.1 bt116.2.2.2.1 bt116.2.2.2.2 bt122.1 bt122.2.1 bt122.2.2.1 bt122.2.2.2.1 bt122.2.2.2.2))) else (if bt122.2.2.1 = true then (insn_Of.j0 k (decide (a0_2 > 10)) a0_0 a0_1 a0_2 a0_3 a0_4 bt116.1 bt116.2.1 bt116.2.2.1 bt116.2.2.2.1 bt116.2.2.2.2 bt122.1 bt122.2.1 bt122.2.2.1 bt122.2.2.2.1 bt122.2.2.2.2) else (insn_Of.j0 k false a0_0 a0_1 a0_2 a0_3 a0_4 bt116.1 bt116.2.1 bt116.2.2.1 bt116.2.2.2.1 bt116.2.2.2.2 bt122.1 bt122.2.1 bt122.2.2.1 bt122.2.2.2.1 bt122.2.2.2.2)))) else (if bt122.2.1 = true then (if a0_1 = 10 then (insn_Of.j0 k true a0_0 a0_1 a0_2 a0_3 a0_4 bt116.1 bt116.2.1 bt116.2.2.1 bt116.2.2.2.1 bt116.2.2.2.2 bt122.1 bt122.2.1 bt122.2.2.1 bt122.2.2.2.1 bt122.2.2.2.2) else (if bt122.2.2.1 = true then (insn_Of.j0 k (decide (a0_2 > 10)) a0_0 a0_1 a0_2 a0_3 a0_4 bt116.1 bt116.2.1 bt116.2.2.1 bt116.2.2.2.1 bt116.2.2.2.2 bt122.1 bt122.2.1 bt122.2.2.1 bt122.2.2.2.1 bt122.2.2.2.2) else (insn_Of.j0 k false a0_0 a0_1 a0_2 a0_3 a0_4 bt116.1 bt116.2.1 bt116.2.2.1 bt116.2.2.2.1 bt116.2.2.2.2 bt122.1 bt122.2.1 bt122.2.2.1 bt122.2.2.2.1 bt122.2.2.2.2))) else (if bt122.2.2.1 = true then (insn_Of.j0 k (decide (a0_2 > 10)) a0_0 a0_1 a0_2 a0_3 a0_4 bt116.1 bt116.2.1 bt116.2.2.1 bt116.2.2.2.1 bt116.2.2.2.2 bt122.1 bt122.2.1 bt122.2.2.1 bt122.2.2.2.1 bt122.2.2.2.2) else (insn_Of.j0 k false a0_0 a0_1 a0_2 a0_3 a0_4 bt116.1 bt116.2.1 bt116.2.2.1 bt116.2.2.2.1 bt116.2.2.2.2 bt122.1 bt122.2.1 bt122.2.2.1 bt122.2.2.2.1 bt122.2.2.2.2))))))) = some (r1, r2, r3, r4, r5, r6) := h
 clear h
 replace H := Option.bind_eq_some_iff.mp H; obtain ⟨⟨t116, t117, t118, t119, t120⟩, A20, H⟩ := H; try dsimp only at H
 have A2 := Aside0.mk A20
 clear A20
 by_cases c3 : (t116 == 0 && (t117 == 0 && (t118 == 0 && (!t119 && (!t120))))) = true
 ·rw [if_pos c3] at H
  have c3b0 : (t116 == 0 && (t117 == 0 && (t118 == 0 && (!t119 && (!t120))))) = true := c3
  (try (have c3b1 : decide (t116 = 0 && (t117 == 0 && (t118 == 0 && (!t119 && (!t120))))) = true := by simpa using c3))
  (try (have c3b2 : (t116 == 0 && (t117 == 0 && (t118 == 0 && (!t119 && (!t120))))) = true := by simpa using c3))
  clear c3
  simp only [Option.some.injEq, Prod.mk.injEq] at H
  obtain ⟨rfl, rfl, rfl, rfl, rfl, rfl⟩ := H
  go_enter Tryd.func34, Tryd.ntmps34
  go_wp2_with (first | ((with_reducible refine gate_dst (N := 1) rfl ?_); refine sh_box 1 #[.int .u8 a0_0, .int .u8 a0_1, .int .u8 a0_2, .int .i16 a0_3, .int .i32 a0_4] 44 ?_; intro gb114 hg w4 hbox hb; have GE114 := sh_z (w := w) hg; replace HB := sh_b (w := w) hb; have BK114 := Aside0.mk (hbox); clear hb hbox hg) | ((with_reducible refine gate_dst (N := 2) rfl ?_); refine sh_box 2 #[.int .i64 0, .int .i64 0, .int .i64 0, .bool false, .bool false] 63 ?_; intro gb115 hg w5 hbox hb; have GE115 := sh_z (w := w) hg; have NB114_115 := sh_n BK114 hg; have NB115_114 := sh_s NB114_115; replace BK114 := sh_k BK114 hb; replace HB := sh_b (w := w) hb; have BK115 := Aside0.mk (hbox); clear hb hbox hg; have hnb6 := NB114_115.out; have hnc6 := NB115_114.out; have hcz7 := blk_all5 BK114.out) | ((with_reducible refine gate_callee (f := 45) rfl ?_); refine sh_call (some 7) Tryd.func45 #[.agg #[.int .u8 a0_0, .int .u8 a0_1, .int .u8 a0_2, .int .i16 a0_3, .int .i32 a0_4]] ?_; (with_reducible refine (insn_kind.calls k a0_0 a0_1 a0_2 a0_3 a0_4 t116 t117 t118 t119 t120 _ ?side1 A2.out).mono ?_); (case side1 => repeat (first | exact (Kd.C_below HRG0.out HB.out) | (with_reducible refine Kd.C_alloc ?_ _) | (with_reducible refine Kd.C_drewN ?_ _) | (with_reducible refine Kd.C_drew ?_))); rintro e w8 ⟨rfl, hb⟩; refine ⟨_, rfl, ?_⟩; replace BK114 := sh_k BK114 hb; replace BK115 := sh_k BK115 hb; replace HB := sh_b (w := w) hb; (try clear hb); (try clear hb2); (try clear hk); (try clear hi)) | ((with_reducible refine gate_dst (N := 4) rfl ?_); refine sh_box 4 #[.int .i64 0, .int .i64 0, .int .i64 0, .bool false, .bool false] 63 ?_; intro gb121 hg w9 hbox hb; have GE121 := sh_z (w := w) hg; have NB114_121 := sh_n BK114 hg; have NB115_121 := sh_n BK115 hg; have NB121_114 := sh_s NB114_121; have NB121_115 := sh_s NB115_121; replace BK114 := sh_k BK114 hb; replace BK115 := sh_k BK115 hb; replace HB := sh_b (w := w) hb; have BK121 := Aside0.mk (hbox); clear hb hbox hg; have hnb10 := NB121_114.out; have hnc10 := NB114_121.out; have hnb11 := NB121_115.out; have hnc11 := NB115_121.out; have hcz12 := blk_all5 BK121.out; have hcz13 := blk_all5 BK115.out))
  refine bodyPost_ret (results_ct rfl _ _ gb115 63 #[.int .i64 0, .int .i64 0, .int .i64 0, .bool false, .bool false] (0, 0) _ rfl bk_now Tryd.underlying63 rfl (by kernel_rfl)) rfl ?_
  exact ⟨ret_now, b_now⟩
 ·rw [if_neg c3] at H
  have c3b0 : (t116 == 0 && (t117 == 0 && (t118 == 0 && (!t119 && (!t120))))) = false := by simpa using c3
  (try (have c3b1 : decide (t116 = 0 && (t117 == 0 && (t118 == 0 && (!t119 && (!t120))))) = false := by simpa using c3))
  (try (have c3b2 : (t116 == 0 && (t117 == 0 && (t118 == 0 && (!t119 && (!t120))))) = false := by simpa using c3))
  (try (have c3b3 : ¬ (t116 = 0 && (t117 == 0 && (t118 == 0 && (!t119 && (!t120))))) := by simpa using c3))
  clear c3
  replace H := Option.bind_eq_some_iff.mp H; obtain ⟨⟨t122, t123, t124, t125, t126⟩, A140, H⟩ := H; try dsimp only at H
  have A14 := Aside0.mk A140
  clear A140
  have HC15 := Aside0.mk H
  clear H
  go_enter Tryd.func34, Tryd.ntmps34
  go_upto_region 5 with (first | ((with_reducible refine gate_dst (N := 1) rfl ?_); refine sh_box 1 #[.int .u8 a0_0, .int .u8 a0_1, .int .u8 a0_2, .int .i16 a0_3, .int .i32 a0_4] 44 ?_; intro gb114 hg w16 hbox hb; have GE114 := sh_z (w := w) hg; replace HB := sh_b (w := w) hb; have BK114 := Aside0.mk (hbox); clear hb hbox hg) | ((with_reducible refine gate_dst (N := 2) rfl ?_); refine sh_box 2 #[.int .i64 0, .int .i64 0, .int .i64 0, .bool false, .bool false] 63 ?_; intro gb115 hg w17 hbox hb; have GE115 := sh_z (w := w) hg; have NB114_115 := sh_n BK114 hg; have NB115_114 := sh_s NB114_115; replace BK114 := sh_k BK114 hb; replace HB := sh_b (w := w) hb; have BK115 := Aside0.mk (hbox); clear hb hbox hg; have hnb18 := NB114_115.out; have hnc18 := NB115_114.out; have hcz19 := blk_all5 BK114.out) | ((with_reducible refine gate_callee (f := 45) rfl ?_); refine sh_call (some 7) Tryd.func45 #[.agg #[.int .u8 a0_0, .int .u8 a0_1, .int .u8 a0_2, .int .i16 a0_3, .int .i32 a0_4]] ?_; (with_reducible refine (insn_kind.calls k a0_0 a0_1 a0_2 a0_3 a0_4 t116 t117 t118 t119 t120 _ ?side1 A2.out).mono ?_); (case side1 => repeat (first | exact (Kd.C_below HRG0.out HB.out) | (with_reducible refine Kd.C_alloc ?_ _) | (with_reducible refine Kd.C_drewN ?_ _) | (with_reducible refine Kd.C_drew ?_))); rintro e w20 ⟨rfl, hb⟩; refine ⟨_, rfl, ?_⟩; replace BK114 := sh_k BK114 hb; replace BK115 := sh_k BK115 hb; replace HB := sh_b (w := w) hb; (try clear hb); (try clear hb2); (try clear hk); (try clear hi)) | ((with_reducible refine gate_dst (N := 4) rfl ?_); refine sh_box 4 #[.int .i64 0, .int .i64 0, .int .i64 0, .bool false, .bool false] 63 ?_; intro gb121 hg w21 hbox hb; have GE121 := sh_z (w := w) hg; have NB114_121 := sh_n BK114 hg; have NB115_121 := sh_n BK115 hg; have NB121_114 := sh_s NB114_121; have NB121_115 := sh_s NB115_121; replace BK114 := sh_k BK114 hb; replace BK115 := sh_k BK115 hb; replace HB := sh_b (w := w) hb; have BK121 := Aside0.mk (hbox); clear hb hbox hg; have hnb22 := NB121_114.out; have hnc22 := NB114_121.out; have hnb23 := NB121_115.out; have hnc23 := NB115_121.out; have hcz24 := blk_all5 BK121.out) | ((with_reducible refine gate_callee (f := 46) rfl ?_); refine sh_call (some 13) Tryd.func46 #[.agg #[.int .i64 t116, .int .i64 t117, .int .i64 t118, .bool t119, .bool t120]] ?_; (with_reducible refine (insn_fields.calls k t116 t117 t118 t119 t120 t122 t123 t124 t125 t126 _ A14.out).mono ?_); rintro e w25 ⟨rfl, hb⟩; refine ⟨_, rfl, ?_⟩; replace BK114 := sh_kp (g := gb114) (t := 44) #[.int .u8 a0_0, .int .u8 a0_1, .int .u8 a0_2, .int .i16 a0_3, .int .i32 a0_4] hb; replace BK115 := sh_kp (g := gb115) (t := 63) #[.int .i64 0, .int .i64 0, .int .i64 0, .bool false, .bool false] hb; replace BK121 := sh_kp (g := gb121) (t := 63) #[.int .i64 t116, .int .i64 t117, .int .i64 t118, .bool t119, .bool t120] hb; replace HB := sh_b (w := w) hb; (try clear hb); (try clear hb2); (try clear hk); (try clear hi)) | ((with_reducible refine gate_dst (N := 5) rfl ?_); refine sh_box 5 #[.bool false, .bool false, .bool false, .bool false, .bool false] 78 ?_; intro gb127 hg w26 hbox hb; have GE127 := sh_z (w := w) hg; have NB114_127 := sh_n BK114 hg; have NB115_127 := sh_n BK115 hg; have NB121_127 := sh_n BK121 hg; have NB127_114 := sh_s NB114_127; have NB127_115 := sh_s NB115_127; have NB127_121 := sh_s NB121_127; replace BK114 := sh_k BK114 hb; replace BK115 := sh_k BK115 hb; replace BK121 := sh_k BK121 hb; replace HB := sh_b (w := w) hb; have BK127 := Aside0.mk (hbox); clear hb hbox hg; have hnb27 := NB127_114.out; have hnc27 := NB114_127.out; have hnb28 := NB127_115.out; have hnc28 := NB115_127.out; have hnb29 := NB127_121.out; have hnc29 := NB121_127.out; have hcz30 := blk_all5 BK127.out))
  (try simp only [Act.put, List.setIfInBounds_toArray, List.set_cons_zero, List.set_cons_succ])
  go_cut [38] (fun v38 wc => ∃ (kq : Nat) (x38_14 : Bool), v38 = .bool x38_14 ∧ Aside0 (insn_Of.j0 kq x38_14 a0_0 a0_1 a0_2 a0_3 a0_4 t116 t117 t118 t119 t120 t122 t123 t124 t125 t126 = some (r1, r2, r3, r4, r5, r6)) ∧ Aside0 (kq ≤ k) ∧ Aside0 (wc.heap[gb114]? = some (.cells #[.int .u8 a0_0, .int .u8 a0_1, .int .u8 a0_2, .int .i16 a0_3, .int .i32 a0_4] 44 (0, 0))) ∧ Aside0 (wc.heap[gb115]? = some (.cells #[.int .i64 0, .int .i64 0, .int .i64 0, .bool false, .bool false] 63 (0, 0))) ∧ Aside0 (wc.heap[gb121]? = some (.cells #[.int .i64 t116, .int .i64 t117, .int .i64 t118, .bool t119, .bool t120] 63 (0, 0))) ∧ Aside0 (wc.heap[gb127]? = some (.cells #[.bool t122, .bool t123, .bool t124, .bool t125, .bool t126] 78 (0, 0))) ∧ Aside0 (Below w.heap.size w wc))
  case first =>
   have H := HC15.out
   clear HC15
   by_cases c31 : t122 = true
   ·subst c31
    replace H := sh_t H
    by_cases c32 : a0_1 > 10
    ·rw [if_pos c32] at H
     have c32b0 : decide (10 < a0_1) = true := decide_eq_true c32
     clear c32
     (first | rw [c32b0] | (simp only [i64_w, i32_w]; rw [c32b0]) | skip)
     have H' := Aside0.mk H
     clear H
     have hnb33 := NB127_114.out
     have hnc33 := NB114_127.out
     have hnb34 := NB127_115.out
     have hnc34 := NB115_127.out
     have hnb35 := NB127_121.out
     have hnc35 := NB121_127.out
     have hcz36 := blk_all5 BK127.out
     have hnb37 := NB114_115.out
     have hnc37 := NB115_114.out
     have hnb38 := NB114_121.out
     have hnc38 := NB121_114.out
     have hcz39 := blk_all5 BK114.out
     go_wp2
     go_meet
     case rel => exact ⟨_, (true), eq_now, H', ⟨by first | omega | exact Nat.le_refl _⟩, ⟨bk_now⟩, ⟨bk_now⟩, ⟨bk_now⟩, ⟨bk_now⟩, ⟨b_now⟩⟩
    ·rw [if_neg c32] at H
     have c32b0 : decide (10 < a0_1) = false := decide_eq_false c32
     clear c32
     (first | rw [c32b0] | (simp only [i64_w, i32_w]; rw [c32b0]) | skip)
     by_cases c40 : t123 = true
     ·subst c40
      replace H := sh_t H
      by_cases c41 : a0_1 = 10
      ·rw [if_pos c41] at H
       have c41b0 : (a0_1 == 10) = true := beq_iff_eq.mpr c41
       have c41b1 : (a0_1 != 10) = false := bne_eq_false_iff_eq.mpr c41
       clear c41
       have H' := Aside0.mk H
       clear H
       have hnb42 := NB127_114.out
       have hnc42 := NB114_127.out
       have hnb43 := NB127_115.out
       have hnc43 := NB115_127.out
       have hnb44 := NB127_121.out
       have hnc44 := NB121_127.out
       have hcz45 := blk_all5 BK127.out
       have hnb46 := NB114_115.out
       have hnc46 := NB115_114.out
       have hnb47 := NB114_121.out
       have hnc47 := NB121_114.out
       have hcz48 := blk_all5 BK114.out
       go_wp2
       go_meet
       case rel => exact ⟨_, (true), eq_now, H', ⟨by first | omega | exact Nat.le_refl _⟩, ⟨bk_now⟩, ⟨bk_now⟩, ⟨bk_now⟩, ⟨bk_now⟩, ⟨b_now⟩⟩
      ·rw [if_neg c41] at H
       have c41b0 : (a0_1 == 10) = false := beq_eq_false_iff_ne.mpr c41
       have c41b1 : (a0_1 != 10) = true := bne_iff_ne.mpr c41
       by_cases c49 : t124 = true
       ·subst c49
        replace H := sh_t H
        have H' := Aside0.mk H
        clear H
        have hnb50 := NB127_114.out
        have hnc50 := NB114_127.out
        have hnb51 := NB127_115.out
        have hnc51 := NB115_127.out
        have hnb52 := NB127_121.out
        have hnc52 := NB121_127.out
        have hcz53 := blk_all5 BK127.out
        have hnb54 := NB114_115.out
        have hnc54 := NB115_114.out
        have hnb55 := NB114_121.out
        have hnc55 := NB121_114.out
        have hcz56 := blk_all5 BK114.out
        go_wp2
        go_meet
        case rel => exact ⟨_, (decide (a0_2 > 10)), eq_now, H', ⟨by first | omega | exact Nat.le_refl _⟩, ⟨bk_now⟩, ⟨bk_now⟩, ⟨bk_now⟩, ⟨bk_now⟩, ⟨b_now⟩⟩
       ·replace c49 := Bool.eq_false_iff.mpr c49
        subst c49
        replace H := sh_f H
        have H' := Aside0.mk H
        clear H
        have hnb57 := NB127_114.out
        have hnc57 := NB114_127.out
        have hnb58 := NB127_115.out
        have hnc58 := NB115_127.out
        have hnb59 := NB127_121.out
        have hnc59 := NB121_127.out
        have hcz60 := blk_all5 BK127.out
        have hnb61 := NB114_115.out
        have hnc61 := NB115_114.out
        have hnb62 := NB114_121.out
        have hnc62 := NB121_114.out
        have hcz63 := blk_all5 BK114.out
        go_wp2
        go_meet
        case rel => exact ⟨_, (false), eq_now, H', ⟨by first | omega | exact Nat.le_refl _⟩, ⟨bk_now⟩, ⟨bk_now⟩, ⟨bk_now⟩, ⟨bk_now⟩, ⟨b_now⟩⟩
     ·replace c40 := Bool.eq_false_iff.mpr c40
      subst c40
      replace H := sh_f H
      by_cases c64 : t124 = true
      ·subst c64
       replace H := sh_t H
       have H' := Aside0.mk H
       clear H
       have hnb65 := NB127_114.out
       have hnc65 := NB114_127.out
       have hnb66 := NB127_115.out
       have hnc66 := NB115_127.out
       have hnb67 := NB127_121.out
       have hnc67 := NB121_127.out
       have hcz68 := blk_all5 BK127.out
       have hnb69 := NB114_115.out
       have hnc69 := NB115_114.out
       have hnb70 := NB114_121.out
       have hnc70 := NB121_114.out
       have hcz71 := blk_all5 BK114.out
       go_wp2
       go_meet
       case rel => exact ⟨_, (decide (a0_2 > 10)), eq_now, H', ⟨by first | omega | exact Nat.le_refl _⟩, ⟨bk_now⟩, ⟨bk_now⟩, ⟨bk_now⟩, ⟨bk_now⟩, ⟨b_now⟩⟩
      ·replace c64 := Bool.eq_false_iff.mpr c64
       subst c64
       replace H := sh_f H
       have H' := Aside0.mk H
       clear H
       have hnb72 := NB127_114.out
       have hnc72 := NB114_127.out
       have hnb73 := NB127_115.out
       have hnc73 := NB115_127.out
       have hnb74 := NB127_121.out
       have hnc74 := NB121_127.out
       have hcz75 := blk_all5 BK127.out
       have hnb76 := NB114_115.out
       have hnc76 := NB115_114.out
       have hnb77 := NB114_121.out
       have hnc77 := NB121_114.out
       have hcz78 := blk_all5 BK114.out
       go_wp2
       go_meet
       case rel => exact ⟨_, (false), eq_now, H', ⟨by first | omega | exact Nat.le_refl _⟩, ⟨bk_now⟩, ⟨bk_now⟩, ⟨bk_now⟩, ⟨bk_now⟩, ⟨b_now⟩⟩
   ·replace c31 := Bool.eq_false_iff.mpr c31
    subst c31
    replace H := sh_f H
    by_cases c79 : t123 = true
    ·subst c79
     replace H := sh_t H
     by_cases c80 : a0_1 = 10
     ·rw [if_pos c80] at H
      have c80b0 : (a0_1 == 10) = true := beq_iff_eq.mpr c80
      have c80b1 : (a0_1 != 10) = false := bne_eq_false_iff_eq.mpr c80
      clear c80
      have H' := Aside0.mk H
      clear H
      have hnb81 := NB127_114.out
      have hnc81 := NB114_127.out
      have hnb82 := NB127_115.out
      have hnc82 := NB115_127.out
      have hnb83 := NB127_121.out
      have hnc83 := NB121_127.out
      have hcz84 := blk_all5 BK127.out
      have hnb85 := NB114_115.out
      have hnc85 := NB115_114.out
      have hnb86 := NB114_121.out
      have hnc86 := NB121_114.out
      have hcz87 := blk_all5 BK114.out
      go_wp2
      go_meet
      case rel => exact ⟨_, (true), eq_now, H', ⟨by first | omega | exact Nat.le_refl _⟩, ⟨bk_now⟩, ⟨bk_now⟩, ⟨bk_now⟩, ⟨bk_now⟩, ⟨b_now⟩⟩
     ·rw [if_neg c80] at H
      have c80b0 : (a0_1 == 10) = false := beq_eq_false_iff_ne.mpr c80
      have c80b1 : (a0_1 != 10) = true := bne_iff_ne.mpr c80
      by_cases c88 : t124 = true
      ·subst c88
       replace H := sh_t H
       have H' := Aside0.mk H
       clear H
       have hnb89 := NB127_114.out
       have hnc89 := NB114_127.out
       have hnb90 := NB127_115.out
       have hnc90 := NB115_127.out
       have hnb91 := NB127_121.out
       have hnc91 := NB121_127.out
       have hcz92 := blk_all5 BK127.out
       have hnb93 := NB114_115.out
       have hnc93 := NB115_114.out
       have hnb94 := NB114_121.out
       have hnc94 := NB121_114.out
       have hcz95 := blk_all5 BK114.out
       go_wp2
       go_meet
       case rel => exact ⟨_, (decide (a0_2 > 10)), eq_now, H', ⟨by first | omega | exact Nat.le_refl _⟩, ⟨bk_now⟩, ⟨bk_now⟩, ⟨bk_now⟩, ⟨bk_now⟩, ⟨b_now⟩⟩
      ·replace c88 := Bool.eq_false_iff.mpr c88
       subst c88
       replace H := sh_f H
       have H' := Aside0.mk H
       clear H
       have hnb96 := NB127_114.out
       have hnc96 := NB114_127.out
       have hnb97 := NB127_115.out
       have hnc97 := NB115_127.out
       have hnb98 := NB127_121.out
       have hnc98 := NB121_127.out
       have hcz99 := blk_all5 BK127.out
       have hnb100 := NB114_115.out
       have hnc100 := NB115_114.out
       have hnb101 := NB114_121.out
       have hnc101 := NB121_114.out
       have hcz102 := blk_all5 BK114.out
       go_wp2
       go_meet
       case rel => exact ⟨_, (false), eq_now, H', ⟨by first | omega | exact Nat.le_refl _⟩, ⟨bk_now⟩, ⟨bk_now⟩, ⟨bk_now⟩, ⟨bk_now⟩, ⟨b_now⟩⟩
    ·replace c79 := Bool.eq_false_iff.mpr c79
     subst c79
     replace H := sh_f H
     by_cases c103 : t124 = true
     ·subst c103
      replace H := sh_t H
      have H' := Aside0.mk H
      clear H
      have hnb104 := NB127_114.out
      have hnc104 := NB114_127.out
      have hnb105 := NB127_115.out
      have hnc105 := NB115_127.out
      have hnb106 := NB127_121.out
      have hnc106 := NB121_127.out
      have hcz107 := blk_all5 BK127.out
      have hnb108 := NB114_115.out
      have hnc108 := NB115_114.out
      have hnb109 := NB114_121.out
      have hnc109 := NB121_114.out
      have hcz110 := blk_all5 BK114.out
      go_wp2
      go_meet
      case rel => exact ⟨_, (decide (a0_2 > 10)), eq_now, H', ⟨by first | omega | exact Nat.le_refl _⟩, ⟨bk_now⟩, ⟨bk_now⟩, ⟨bk_now⟩, ⟨bk_now⟩, ⟨b_now⟩⟩
     ·replace c103 := Bool.eq_false_iff.mpr c103
      subst c103
      replace H := sh_f H
      have H' := Aside0.mk H
      clear H
      have hnb111 := NB127_114.out
      have hnc111 := NB114_127.out
      have hnb112 := NB127_115.out
      have hnc112 := NB115_127.out
      have hnb113 := NB127_121.out
      have hnc113 := NB121_127.out
      have hcz114 := blk_all5 BK127.out
      go_wp2
      go_meet
      case rel => exact ⟨_, (false), eq_now, H', ⟨by first | omega | exact Nat.le_refl _⟩, ⟨bk_now⟩, ⟨bk_now⟩, ⟨bk_now⟩, ⟨bk_now⟩, ⟨b_now⟩⟩
  case rest =>
   clear HC15
   try clear c1
   try clear c2
   try clear p2
   try clear c3
   try clear c3b0
   try clear c3b1
   try clear c3b2
   try clear c4
   try clear c5
   try clear c6
   try clear c7
   try clear c8
   try clear c9
   try clear c10
   try clear c11
   try clear c18
   try clear c22
   try clear c23
   try clear c27
   try clear c28
   try clear c29
   try clear c31
   try clear c32
   try clear c32b0
   try clear c33
   try clear c34
   try clear c35
   try clear c37
   try clear c38
   try clear c40
   try clear c41
   try clear c41b0
   try clear c41b1
   try clear c42
   try clear c43
   try clear c44
   try clear c45
   try clear c46
   try clear c47
   try clear c49
   try clear c50
   try clear c51
   try clear c52
   try clear c54
   try clear c55
   try clear c57
   try clear c58
   try clear c59
   try clear c61
   try clear c62
   try clear c64
   try clear c65
   try clear c66
   try clear c67
   try clear c69
   try clear c70
   try clear c72
   try clear c73
   try clear c74
   try clear c76
   try clear c77
   try clear c79
   try clear c80
   try clear c80b0
   try clear c80b1
   try clear c81
   try clear c82
   try clear c83
   try clear c85
   try clear c86
   try clear c88
   try clear c89
   try clear c90
   try clear c91
   try clear c93
   try clear c94
   try clear c96
   try clear c97
   try clear c98
   try clear c100
   try clear c101
   try clear c103
   try clear c104
   try clear c105
   try clear c106
   try clear c108
   try clear c109
   try clear c111
   try clear c112
   try clear c113
   try clear hcz102
   try clear hcz107
   try clear hcz110
   try clear hcz114
   try clear hcz12
   try clear hcz13
   try clear hcz19
   try clear hcz24
   try clear hcz30
   try clear hcz36
   try clear hcz39
   try clear hcz45
   try clear hcz48
   try clear hcz53
   try clear hcz56
   try clear hcz60
   try clear hcz63
   try clear hcz68
   try clear hcz71
   try clear hcz75
   try clear hcz78
   try clear hcz7
   try clear hcz84
   try clear hcz87
   try clear hcz92
   try clear hcz95
   try clear hcz99
   obtain ⟨kq, x38_14, rfl, HA, HJ14, BK114, BK115, BK121, BK127, HB⟩ := hcut
   cases kq with
   | zero => exact absurd HA.out (by simp [insn_Of.j0])
   | succ kj14 =>
    have H := HA.out
    clear HA
    simp only [insn_Of.j0] at H
    by_cases c115 : x38_14 = true
    ·subst c115
     replace H := sh_t H
     simp only [Option.some.injEq, Prod.mk.injEq] at H
     obtain ⟨rfl, rfl, rfl, rfl, rfl, rfl⟩ := H
     have hnb116 := NB115_114.out
     have hnc116 := NB114_115.out
     have hnb117 := NB115_121.out
     have hnc117 := NB121_115.out
     have hnb118 := NB115_127.out
     have hnc118 := NB127_115.out
     have hcz119 := blk_all5 BK115.out
     go_wp2
     refine bodyPost_ret (results_ct rfl _ _ gb115 63 #[.int .i64 0, .int .i64 0, .int .i64 0, .bool false, .bool false] (0, 0) _ rfl bk_now Tryd.underlying63 rfl (by kernel_rfl)) rfl ?_
     exact ⟨ret_now, b_now⟩
    ·replace c115 := Bool.eq_false_iff.mpr c115
     subst c115
     replace H := sh_f H
     by_cases c120 : t122 = true
     ·subst c120
      replace H := sh_t H
      by_cases c121 : t124 = true
      ·subst c121
       replace H := sh_t H
       by_cases c122 : t125 = true
       ·subst c122
        replace H := sh_t H
        by_cases c123 : t126 = true
        ·subst c123
         replace H := sh_t H
         simp only [Option.some.injEq, Prod.mk.injEq] at H
         obtain ⟨rfl, rfl, rfl, rfl, rfl, rfl⟩ := H
         have hnb124 := NB127_114.out
         have hnc124 := NB114_127.out
         have hnb125 := NB127_115.out
         have hnc125 := NB115_127.out
         have hnb126 := NB127_121.out
         have hnc126 := NB121_127.out
         have hcz127 := blk_all5 BK127.out
         have hnb128 := NB121_114.out
         have hnc128 := NB114_121.out
         have hnb129 := NB121_115.out
         have hnc129 := NB115_121.out
         have hcz130 := blk_all5 BK121.out
         have hnb131 := NB115_114.out
         have hnc131 := NB114_115.out
         have hcz132 := blk_all5 BK115.out
         go_wp2
         refine bodyPost_ret (results_ct rfl _ _ gb115 63 #[.int .i64 t116, .int .i64 t117, .int .i64 t118, .bool t119, .bool t120] (0, 0) _ rfl bk_now Tryd.underlying63 rfl (by kernel_rfl)) rfl ?_
         exact ⟨ret_now, b_now⟩
        ·replace c123 := Bool.eq_false_iff.mpr c123
         subst c123
         replace H := sh_f H
         by_cases c133 : a0_4 = 0
         ·rw [if_pos c133] at H
          have c133b0 : (a0_4 == 0) = true := beq_iff_eq.mpr c133
          have c133b1 : (a0_4 != 0) = false := bne_eq_false_iff_eq.mpr c133
          clear c133
          simp only [Option.some.injEq, Prod.mk.injEq] at H
          obtain ⟨rfl, rfl, rfl, rfl, rfl, rfl⟩ := H
          have hnb134 := NB127_114.out
          have hnc134 := NB114_127.out
          have hnb135 := NB127_115.out
          have hnc135 := NB115_127.out
          have hnb136 := NB127_121.out
          have hnc136 := NB121_127.out
          have hcz137 := blk_all5 BK127.out
          have hnb138 := NB114_115.out
          have hnc138 := NB115_114.out
          have hnb139 := NB114_121.out
          have hnc139 := NB121_114.out
          have hcz140 := blk_all5 BK114.out
          have hnb141 := NB121_115.out
          have hnc141 := NB115_121.out
          have hcz142 := blk_all5 BK121.out
          have hcz143 := blk_all5 BK115.out
          go_wp2
          refine bodyPost_ret (results_ct rfl _ _ gb115 63 #[.int .i64 t116, .int .i64 t117, .int .i64 t118, .bool t119, .bool t120] (0, 0) _ rfl bk_now Tryd.underlying63 rfl (by kernel_rfl)) rfl ?_
          exact ⟨ret_now, b_now⟩
         ·rw [if_neg c133] at H
          have c133b0 : (a0_4 == 0) = false := beq_eq_false_iff_ne.mpr c133
          have c133b1 : (a0_4 != 0) = true := bne_iff_ne.mpr c133
          simp only [Option.some.injEq, Prod.mk.injEq] at H
          obtain ⟨rfl, rfl, rfl, rfl, rfl, rfl⟩ := H
          have hnb144 := NB127_114.out
          have hnc144 := NB114_127.out
          have hnb145 := NB127_115.out
          have hnc145 := NB115_127.out
          have hnb146 := NB127_121.out
          have hnc146 := NB121_127.out
          have hcz147 := blk_all5 BK127.out
          have hnb148 := NB114_115.out
          have hnc148 := NB115_114.out
          have hnb149 := NB114_121.out
          have hnc149 := NB121_114.out
          have hcz150 := blk_all5 BK114.out
          have hnb151 := NB115_121.out
          have hnc151 := NB121_115.out
          have hcz152 := blk_all5 BK115.out
          go_wp2
          refine bodyPost_ret (results_ct rfl _ _ gb115 63 #[.int .i64 0, .int .i64 0, .int .i64 0, .bool false, .bool false] (0, 0) _ rfl bk_now Tryd.underlying63 rfl (by kernel_rfl)) rfl ?_
          exact ⟨ret_now, b_now⟩
       ·replace c122 := Bool.eq_false_iff.mpr c122
        subst c122
        replace H := sh_f H
        by_cases c153 : a0_3 = 0
        ·rw [if_pos c153] at H
         have c153b0 : (a0_3 == 0) = true := beq_iff_eq.mpr c153
         have c153b1 : (a0_3 != 0) = false := bne_eq_false_iff_eq.mpr c153
         clear c153
         by_cases c154 : t126 = true
         ·subst c154
          replace H := sh_t H
          simp only [Option.some.injEq, Prod.mk.injEq] at H
          obtain ⟨rfl, rfl, rfl, rfl, rfl, rfl⟩ := H
          have hnb155 := NB127_114.out
          have hnc155 := NB114_127.out
          have hnb156 := NB127_115.out
          have hnc156 := NB115_127.out
          have hnb157 := NB127_121.out
          have hnc157 := NB121_127.out
          have hcz158 := blk_all5 BK127.out
          have hnb159 := NB114_115.out
          have hnc159 := NB115_114.out
          have hnb160 := NB114_121.out
          have hnc160 := NB121_114.out
          have hcz161 := blk_all5 BK114.out
          have hnb162 := NB121_115.out
          have hnc162 := NB115_121.out
          have hcz163 := blk_all5 BK121.out
          have hcz164 := blk_all5 BK115.out
          go_wp2
          refine bodyPost_ret (results_ct rfl _ _ gb115 63 #[.int .i64 t116, .int .i64 t117, .int .i64 t118, .bool t119, .bool t120] (0, 0) _ rfl bk_now Tryd.underlying63 rfl (by kernel_rfl)) rfl ?_
          exact ⟨ret_now, b_now⟩
         ·replace c154 := Bool.eq_false_iff.mpr c154
          subst c154
          replace H := sh_f H
          by_cases c165 : a0_4 = 0
          ·rw [if_pos c165] at H
           have c165b0 : (a0_4 == 0) = true := beq_iff_eq.mpr c165
           have c165b1 : (a0_4 != 0) = false := bne_eq_false_iff_eq.mpr c165
           clear c165
           simp only [Option.some.injEq, Prod.mk.injEq] at H
           obtain ⟨rfl, rfl, rfl, rfl, rfl, rfl⟩ := H
           have hnb166 := NB127_114.out
           have hnc166 := NB114_127.out
           have hnb167 := NB127_115.out
           have hnc167 := NB115_127.out
           have hnb168 := NB127_121.out
           have hnc168 := NB121_127.out
           have hcz169 := blk_all5 BK127.out
           have hnb170 := NB114_115.out
           have hnc170 := NB115_114.out
           have hnb171 := NB114_121.out
           have hnc171 := NB121_114.out
           have hcz172 := blk_all5 BK114.out
           have hnb173 := NB121_115.out
           have hnc173 := NB115_121.out
           have hcz174 := blk_all5 BK121.out
           have hcz175 := blk_all5 BK115.out
           go_wp2
           refine bodyPost_ret (results_ct rfl _ _ gb115 63 #[.int .i64 t116, .int .i64 t117, .int .i64 t118, .bool t119, .bool t120] (0, 0) _ rfl bk_now Tryd.underlying63 rfl (by kernel_rfl)) rfl ?_
           exact ⟨ret_now, b_now⟩
          ·rw [if_neg c165] at H
           have c165b0 : (a0_4 == 0) = false := beq_eq_false_iff_ne.mpr c165
           have c165b1 : (a0_4 != 0) = true := bne_iff_ne.mpr c165
           simp only [Option.some.injEq, Prod.mk.injEq] at H
           obtain ⟨rfl, rfl, rfl, rfl, rfl, rfl⟩ := H
           have hnb176 := NB127_114.out
           have hnc176 := NB114_127.out
           have hnb177 := NB127_115.out
           have hnc177 := NB115_127.out
           have hnb178 := NB127_121.out
           have hnc178 := NB121_127.out
           have hcz179 := blk_all5 BK127.out
           have hnb180 := NB114_115.out
           have hnc180 := NB115_114.out
           have hnb181 := NB114_121.out
           have hnc181 := NB121_114.out
           have hcz182 := blk_all5 BK114.out
           have hnb183 := NB115_121.out
           have hnc183 := NB121_115.out
           have hcz184 := blk_all5 BK115.out
           go_wp2
           refine bodyPost_ret (results_ct rfl _ _ gb115 63 #[.int .i64 0, .int .i64 0, .int .i64 0, .bool false, .bool false] (0, 0) _ rfl bk_now Tryd.underlying63 rfl (by kernel_rfl)) rfl ?_
           exact ⟨ret_now, b_now⟩
        ·rw [if_neg c153] at H
         have c153b0 : (a0_3 == 0) = false := beq_eq_false_iff_ne.mpr c153
         have c153b1 : (a0_3 != 0) = true := bne_iff_ne.mpr c153
         simp only [Option.some.injEq, Prod.mk.injEq] at H
         obtain ⟨rfl, rfl, rfl, rfl, rfl, rfl⟩ := H
         have hnb185 := NB127_114.out
         have hnc185 := NB114_127.out
         have hnb186 := NB127_115.out
         have hnc186 := NB115_127.out
         have hnb187 := NB127_121.out
         have hnc187 := NB121_127.out
         have hcz188 := blk_all5 BK127.out
         have hnb189 := NB114_115.out
         have hnc189 := NB115_114.out
         have hnb190 := NB114_121.out
         have hnc190 := NB121_114.out
         have hcz191 := blk_all5 BK114.out
         have hnb192 := NB115_121.out
         have hnc192 := NB121_115.out
         have hcz193 := blk_all5 BK115.out
         go_wp2
         refine bodyPost_ret (results_ct rfl _ _ gb115 63 #[.int .i64 0, .int .i64 0, .int .i64 0, .bool false, .bool false] (0, 0) _ rfl bk_now Tryd.underlying63 rfl (by kernel_rfl)) rfl ?_
         exact ⟨ret_now, b_now⟩
      ·replace c121 := Bool.eq_false_iff.mpr c121
       subst c121
       replace H := sh_f H
       by_cases c194 : a0_2 = 0
       ·rw [if_pos c194] at H
        have c194b0 : (a0_2 == 0) = true := beq_iff_eq.mpr c194
        have c194b1 : (a0_2 != 0) = false := bne_eq_false_iff_eq.mpr c194
        clear c194
        by_cases c195 : t125 = true
        ·subst c195
         replace H := sh_t H
         by_cases c196 : t126 = true
         ·subst c196
          replace H := sh_t H
          simp only [Option.some.injEq, Prod.mk.injEq] at H
          obtain ⟨rfl, rfl, rfl, rfl, rfl, rfl⟩ := H
          have hnb197 := NB127_114.out
          have hnc197 := NB114_127.out
          have hnb198 := NB127_115.out
          have hnc198 := NB115_127.out
          have hnb199 := NB127_121.out
          have hnc199 := NB121_127.out
          have hcz200 := blk_all5 BK127.out
          have hnb201 := NB114_115.out
          have hnc201 := NB115_114.out
          have hnb202 := NB114_121.out
          have hnc202 := NB121_114.out
          have hcz203 := blk_all5 BK114.out
          have hnb204 := NB121_115.out
          have hnc204 := NB115_121.out
          have hcz205 := blk_all5 BK121.out
          have hcz206 := blk_all5 BK115.out
          go_wp2
          refine bodyPost_ret (results_ct rfl _ _ gb115 63 #[.int .i64 t116, .int .i64 t117, .int .i64 t118, .bool t119, .bool t120] (0, 0) _ rfl bk_now Tryd.underlying63 rfl (by kernel_rfl)) rfl ?_
          exact ⟨ret_now, b_now⟩
         ·replace c196 := Bool.eq_false_iff.mpr c196
          subst c196
          replace H := sh_f H
          by_cases c207 : a0_4 = 0
          ·rw [if_pos c207] at H
           have c207b0 : (a0_4 == 0) = true := beq_iff_eq.mpr c207
           have c207b1 : (a0_4 != 0) = false := bne_eq_false_iff_eq.mpr c207
           clear c207
           simp only [Option.some.injEq, Prod.mk.injEq] at H
           obtain ⟨rfl, rfl, rfl, rfl, rfl, rfl⟩ := H
           have hnb208 := NB127_114.out
           have hnc208 := NB114_127.out
           have hnb209 := NB127_115.out
           have hnc209 := NB115_127.out
           have hnb210 := NB127_121.out
           have hnc210 := NB121_127.out
           have hcz211 := blk_all5 BK127.out
           have hnb212 := NB114_115.out
           have hnc212 := NB115_114.out
           have hnb213 := NB114_121.out
           have hnc213 := NB121_114.out
           have hcz214 := blk_all5 BK114.out
           have hnb215 := NB121_115.out
           have hnc215 := NB115_121.out
           have hcz216 := blk_all5 BK121.out
           have hcz217 := blk_all5 BK115.out
           go_wp2
           refine bodyPost_ret (results_ct rfl _ _ gb115 63 #[.int .i64 t116, .int .i64 t117, .int .i64 t118, .bool t119, .bool t120] (0, 0) _ rfl bk_now Tryd.underlying63 rfl (by kernel_rfl)) rfl ?_
           exact ⟨ret_now, b_now⟩
          ·rw [if_neg c207] at H
           have c207b0 : (a0_4 == 0) = false := beq_eq_false_iff_ne.mpr c207
           have c207b1 : (a0_4 != 0) = true := bne_iff_ne.mpr c207
           simp only [Option.some.injEq, Prod.mk.injEq] at H
           obtain ⟨rfl, rfl, rfl, rfl, rfl, rfl⟩ := H
           have hnb218 := NB127_114.out
           have hnc218 := NB114_127.out
           have hnb219 := NB127_115.out
           have hnc219 := NB115_127.out
           have hnb220 := NB127_121.out
           have hnc220 := NB121_127.out
           have hcz221 := blk_all5 BK127.out
           have hnb222 := NB114_115.out
           have hnc222 := NB115_114.out
           have hnb223 := NB114_121.out
           have hnc223 := NB121_114.out
           have hcz224 := blk_all5 BK114.out
           have hnb225 := NB115_121.out
           have hnc225 := NB121_115.out
           have hcz226 := blk_all5 BK115.out
           go_wp2
           refine bodyPost_ret (results_ct rfl _ _ gb115 63 #[.int .i64 0, .int .i64 0, .int .i64 0, .bool false, .bool false] (0, 0) _ rfl bk_now Tryd.underlying63 rfl (by kernel_rfl)) rfl ?_
           exact ⟨ret_now, b_now⟩
        ·replace c195 := Bool.eq_false_iff.mpr c195
         subst c195
         replace H := sh_f H
         by_cases c227 : a0_3 = 0
         ·rw [if_pos c227] at H
          have c227b0 : (a0_3 == 0) = true := beq_iff_eq.mpr c227
          have c227b1 : (a0_3 != 0) = false := bne_eq_false_iff_eq.mpr c227
          clear c227
          by_cases c228 : t126 = true
          ·subst c228
           replace H := sh_t H
           simp only [Option.some.injEq, Prod.mk.injEq] at H
           obtain ⟨rfl, rfl, rfl, rfl, rfl, rfl⟩ := H
           have hnb229 := NB127_114.out
           have hnc229 := NB114_127.out
           have hnb230 := NB127_115.out
           have hnc230 := NB115_127.out
           have hnb231 := NB127_121.out
           have hnc231 := NB121_127.out
           have hcz232 := blk_all5 BK127.out
           have hnb233 := NB114_115.out
           have hnc233 := NB115_114.out
           have hnb234 := NB114_121.out
           have hnc234 := NB121_114.out
           have hcz235 := blk_all5 BK114.out
           have hnb236 := NB121_115.out
           have hnc236 := NB115_121.out
           have hcz237 := blk_all5 BK121.out
           have hcz238 := blk_all5 BK115.out
           go_wp2
           refine bodyPost_ret (results_ct rfl _ _ gb115 63 #[.int .i64 t116, .int .i64 t117, .int .i64 t118, .bool t119, .bool t120] (0, 0) _ rfl bk_now Tryd.underlying63 rfl (by kernel_rfl)) rfl ?_
           exact ⟨ret_now, b_now⟩
          ·replace c228 := Bool.eq_false_iff.mpr c228
           subst c228
           replace H := sh_f H
           by_cases c239 : a0_4 = 0
           ·rw [if_pos c239] at H
            have c239b0 : (a0_4 == 0) = true := beq_iff_eq.mpr c239
            have c239b1 : (a0_4 != 0) = false := bne_eq_false_iff_eq.mpr c239
            clear c239
            simp only [Option.some.injEq, Prod.mk.injEq] at H
            obtain ⟨rfl, rfl, rfl, rfl, rfl, rfl⟩ := H
            have hnb240 := NB127_114.out
            have hnc240 := NB114_127.out
            have hnb241 := NB127_115.out
            have hnc241 := NB115_127.out
            have hnb242 := NB127_121.out
            have hnc242 := NB121_127.out
            have hcz243 := blk_all5 BK127.out
            have hnb244 := NB114_115.out
            have hnc244 := NB115_114.out
            have hnb245 := NB114_121.out
            have hnc245 := NB121_114.out
            have hcz246 := blk_all5 BK114.out
            have hnb247 := NB121_115.out
            have hnc247 := NB115_121.out
            have hcz248 := blk_all5 BK121.out
            have hcz249 := blk_all5 BK115.out
            go_wp2
            refine bodyPost_ret (results_ct rfl _ _ gb115 63 #[.int .i64 t116, .int .i64 t117, .int .i64 t118, .bool t119, .bool t120] (0, 0) _ rfl bk_now Tryd.underlying63 rfl (by kernel_rfl)) rfl ?_
            exact ⟨ret_now, b_now⟩
           ·rw [if_neg c239] at H
            have c239b0 : (a0_4 == 0) = false := beq_eq_false_iff_ne.mpr c239
            have c239b1 : (a0_4 != 0) = true := bne_iff_ne.mpr c239
            simp only [Option.some.injEq, Prod.mk.injEq] at H
            obtain ⟨rfl, rfl, rfl, rfl, rfl, rfl⟩ := H
            have hnb250 := NB127_114.out
            have hnc250 := NB114_127.out
            have hnb251 := NB127_115.out
            have hnc251 := NB115_127.out
            have hnb252 := NB127_121.out
            have hnc252 := NB121_127.out
            have hcz253 := blk_all5 BK127.out
            have hnb254 := NB114_115.out
            have hnc254 := NB115_114.out
            have hnb255 := NB114_121.out
            have hnc255 := NB121_114.out
            have hcz256 := blk_all5 BK114.out
            have hnb257 := NB115_121.out
            have hnc257 := NB121_115.out
            have hcz258 := blk_all5 BK115.out
            go_wp2
            refine bodyPost_ret (results_ct rfl _ _ gb115 63 #[.int .i64 0, .int .i64 0, .int .i64 0, .bool false, .bool false] (0, 0) _ rfl bk_now Tryd.underlying63 rfl (by kernel_rfl)) rfl ?_
            exact ⟨ret_now, b_now⟩
         ·rw [if_neg c227] at H
          have c227b0 : (a0_3 == 0) = false := beq_eq_false_iff_ne.mpr c227
          have c227b1 : (a0_3 != 0) = true := bne_iff_ne.mpr c227
          simp only [Option.some.injEq, Prod.mk.injEq] at H
          obtain ⟨rfl, rfl, rfl, rfl, rfl, rfl⟩ := H
          have hnb259 := NB127_114.out
          have hnc259 := NB114_127.out
          have hnb260 := NB127_115.out
          have hnc260 := NB115_127.out
          have hnb261 := NB127_121.out
          have hnc261 := NB121_127.out
          have hcz262 := blk_all5 BK127.out
          have hnb263 := NB114_115.out
          have hnc263 := NB115_114.out
          have hnb264 := NB114_121.out
          have hnc264 := NB121_114.out
          have hcz265 := blk_all5 BK114.out
          have hnb266 := NB115_121.out
          have hnc266 := NB121_115.out
          have hcz267 := blk_all5 BK115.out
          go_wp2
          refine bodyPost_ret (results_ct rfl _ _ gb115 63 #[.int .i64 0, .int .i64 0, .int .i64 0, .bool false, .bool false] (0, 0) _ rfl bk_now Tryd.underlying63 rfl (by kernel_rfl)) rfl ?_
          exact ⟨ret_now, b_now⟩
       ·rw [if_neg c194] at H
        have c194b0 : (a0_2 == 0) = false := beq_eq_false_iff_ne.mpr c194
        have c194b1 : (a0_2 != 0) = true := bne_iff_ne.mpr c194
        by_cases c268 : t116 = 11
        ·rw [if_pos c268] at H
         have c268b0 : (t116 == 11) = true := beq_iff_eq.mpr c268
         have c268b1 : (t116 != 11) = false := bne_eq_false_iff_eq.mpr c268
         clear c268
         by_cases c269 : t125 = true
         ·subst c269
          replace H := sh_t H
          by_cases c270 : t126 = true
          ·subst c270
           replace H := sh_t H
           simp only [Option.some.injEq, Prod.mk.injEq] at H
           obtain ⟨rfl, rfl, rfl, rfl, rfl, rfl⟩ := H
           have hnb271 := NB127_114.out
           have hnc271 := NB114_127.out
           have hnb272 := NB127_115.out
           have hnc272 := NB115_127.out
           have hnb273 := NB127_121.out
           have hnc273 := NB121_127.out
           have hcz274 := blk_all5 BK127.out
           have hnb275 := NB114_115.out
           have hnc275 := NB115_114.out
           have hnb276 := NB114_121.out
           have hnc276 := NB121_114.out
           have hcz277 := blk_all5 BK114.out
           have hnb278 := NB121_115.out
           have hnc278 := NB115_121.out
           have hcz279 := blk_all5 BK121.out
           have hcz280 := blk_all5 BK115.out
           go_wp2
           refine bodyPost_ret (results_ct rfl _ _ gb115 63 #[.int .i64 t116, .int .i64 t117, .int .i64 t118, .bool t119, .bool t120] (0, 0) _ rfl bk_now Tryd.underlying63 rfl (by kernel_rfl)) rfl ?_
           exact ⟨ret_now, b_now⟩
          ·replace c270 := Bool.eq_false_iff.mpr c270
           subst c270
           replace H := sh_f H
           by_cases c281 : a0_4 = 0
           ·rw [if_pos c281] at H
            have c281b0 : (a0_4 == 0) = true := beq_iff_eq.mpr c281
            have c281b1 : (a0_4 != 0) = false := bne_eq_false_iff_eq.mpr c281
            clear c281
            simp only [Option.some.injEq, Prod.mk.injEq] at H
            obtain ⟨rfl, rfl, rfl, rfl, rfl, rfl⟩ := H
            have hnb282 := NB127_114.out
            have hnc282 := NB114_127.out
            have hnb283 := NB127_115.out
            have hnc283 := NB115_127.out
            have hnb284 := NB127_121.out
            have hnc284 := NB121_127.out
            have hcz285 := blk_all5 BK127.out
            have hnb286 := NB114_115.out
            have hnc286 := NB115_114.out
            have hnb287 := NB114_121.out
            have hnc287 := NB121_114.out
            have hcz288 := blk_all5 BK114.out
            have hnb289 := NB121_115.out
            have hnc289 := NB115_121.out
            have hcz290 := blk_all5 BK121.out
            have hcz291 := blk_all5 BK115.out
            go_wp2
            refine bodyPost_ret (results_ct rfl _ _ gb115 63 #[.int .i64 t116, .int .i64 t117, .int .i64 t118, .bool t119, .bool t120] (0, 0) _ rfl bk_now Tryd.underlying63 rfl (by kernel_rfl)) rfl ?_
            exact ⟨ret_now, b_now⟩
           ·rw [if_neg c281] at H
            have c281b0 : (a0_4 == 0) = false := beq_eq_false_iff_ne.mpr c281
            have c281b1 : (a0_4 != 0) = true := bne_iff_ne.mpr c281
            simp only [Option.some.injEq, Prod.mk.injEq] at H
            obtain ⟨rfl, rfl, rfl, rfl, rfl, rfl⟩ := H
            have hnb292 := NB127_114.out
            have hnc292 := NB114_127.out
            have hnb293 := NB127_115.out
            have hnc293 := NB115_127.out
            have hnb294 := NB127_121.out
            have hnc294 := NB121_127.out
            have hcz295 := blk_all5 BK127.out
            have hnb296 := NB114_115.out
            have hnc296 := NB115_114.out
            have hnb297 := NB114_121.out
            have hnc297 := NB121_114.out
            have hcz298 := blk_all5 BK114.out
            have hnb299 := NB121_115.out
            have hnc299 := NB115_121.out
            have hcz300 := blk_all5 BK121.out
            have hcz301 := blk_all5 BK115.out
            go_wp2
            refine bodyPost_ret (results_ct rfl _ _ gb115 63 #[.int .i64 0, .int .i64 0, .int .i64 0, .bool false, .bool false] (0, 0) _ rfl bk_now Tryd.underlying63 rfl (by kernel_rfl)) rfl ?_
            exact ⟨ret_now, b_now⟩
         ·replace c269 := Bool.eq_false_iff.mpr c269
          subst c269
          replace H := sh_f H
          by_cases c302 : a0_3 = 0
          ·rw [if_pos c302] at H
           have c302b0 : (a0_3 == 0) = true := beq_iff_eq.mpr c302
           have c302b1 : (a0_3 != 0) = false := bne_eq_false_iff_eq.mpr c302
           clear c302
           by_cases c303 : t126 = true
           ·subst c303
            replace H := sh_t H
            simp only [Option.some.injEq, Prod.mk.injEq] at H
            obtain ⟨rfl, rfl, rfl, rfl, rfl, rfl⟩ := H
            have hnb304 := NB127_114.out
            have hnc304 := NB114_127.out
            have hnb305 := NB127_115.out
            have hnc305 := NB115_127.out
            have hnb306 := NB127_121.out
            have hnc306 := NB121_127.out
            have hcz307 := blk_all5 BK127.out
            have hnb308 := NB114_115.out
            have hnc308 := NB115_114.out
            have hnb309 := NB114_121.out
            have hnc309 := NB121_114.out
            have hcz310 := blk_all5 BK114.out
            have hnb311 := NB121_115.out
            have hnc311 := NB115_121.out
            have hcz312 := blk_all5 BK121.out
            have hcz313 := blk_all5 BK115.out
            go_wp2
            refine bodyPost_ret (results_ct rfl _ _ gb115 63 #[.int .i64 t116, .int .i64 t117, .int .i64 t118, .bool t119, .bool t120] (0, 0) _ rfl bk_now Tryd.underlying63 rfl (by kernel_rfl)) rfl ?_
            exact ⟨ret_now, b_now⟩
           ·replace c303 := Bool.eq_false_iff.mpr c303
            subst c303
            replace H := sh_f H
            by_cases c314 : a0_4 = 0
            ·rw [if_pos c314] at H
             have c314b0 : (a0_4 == 0) = true := beq_iff_eq.mpr c314
             have c314b1 : (a0_4 != 0) = false := bne_eq_false_iff_eq.mpr c314
             clear c314
             simp only [Option.some.injEq, Prod.mk.injEq] at H
             obtain ⟨rfl, rfl, rfl, rfl, rfl, rfl⟩ := H
             have hnb315 := NB127_114.out
             have hnc315 := NB114_127.out
             have hnb316 := NB127_115.out
             have hnc316 := NB115_127.out
             have hnb317 := NB127_121.out
             have hnc317 := NB121_127.out
             have hcz318 := blk_all5 BK127.out
             have hnb319 := NB114_115.out
             have hnc319 := NB115_114.out
             have hnb320 := NB114_121.out
             have hnc320 := NB121_114.out
             have hcz321 := blk_all5 BK114.out
             have hnb322 := NB121_115.out
             have hnc322 := NB115_121.out
             have hcz323 := blk_all5 BK121.out
             have hcz324 := blk_all5 BK115.out
             go_wp2
             refine bodyPost_ret (results_ct rfl _ _ gb115 63 #[.int .i64 t116, .int .i64 t117, .int .i64 t118, .bool t119, .bool t120] (0, 0) _ rfl bk_now Tryd.underlying63 rfl (by kernel_rfl)) rfl ?_
             exact ⟨ret_now, b_now⟩
            ·rw [if_neg c314] at H
             have c314b0 : (a0_4 == 0) = false := beq_eq_false_iff_ne.mpr c314
             have c314b1 : (a0_4 != 0) = true := bne_iff_ne.mpr c314
             simp only [Option.some.injEq, Prod.mk.injEq] at H
             obtain ⟨rfl, rfl, rfl, rfl, rfl, rfl⟩ := H
             have hnb325 := NB127_114.out
             have hnc325 := NB114_127.out
             have hnb326 := NB127_115.out
             have hnc326 := NB115_127.out
             have hnb327 := NB127_121.out
             have hnc327 := NB121_127.out
             have hcz328 := blk_all5 BK127.out
             have hnb329 := NB114_115.out
             have hnc329 := NB115_114.out
             have hnb330 := NB114_121.out
             have hnc330 := NB121_114.out
             have hcz331 := blk_all5 BK114.out
             have hnb332 := NB121_115.out
             have hnc332 := NB115_121.out
             have hcz333 := blk_all5 BK121.out
             have hcz334 := blk_all5 BK115.out
             go_wp2
             refine bodyPost_ret (results_ct rfl _ _ gb115 63 #[.int .i64 0, .int .i64 0, .int .i64 0, .bool false, .bool false] (0, 0) _ rfl bk_now Tryd.underlying63 rfl (by kernel_rfl)) rfl ?_
             exact ⟨ret_now, b_now⟩
          ·rw [if_neg c302] at H
           have c302b0 : (a0_3 == 0) = false := beq_eq_false_iff_ne.mpr c302
           have c302b1 : (a0_3 != 0) = true := bne_iff_ne.mpr c302
           simp only [Option.some.injEq, Prod.mk.injEq] at H
           obtain ⟨rfl, rfl, rfl, rfl, rfl, rfl⟩ := H
           have hnb335 := NB127_114.out
           have hnc335 := NB114_127.out
           have hnb336 := NB127_115.out
           have hnc336 := NB115_127.out
           have hnb337 := NB127_121.out
           have hnc337 := NB121_127.out
           have hcz338 := blk_all5 BK127.out
           have hnb339 := NB114_115.out
           have hnc339 := NB115_114.out
           have hnb340 := NB114_121.out
           have hnc340 := NB121_114.out
           have hcz341 := blk_all5 BK114.out
           have hnb342 := NB121_115.out
           have hnc342 := NB115_121.out
           have hcz343 := blk_all5 BK121.out
           have hcz344 := blk_all5 BK115.out
           go_wp2
           refine bodyPost_ret (results_ct rfl _ _ gb115 63 #[.int .i64 0, .int .i64 0, .int .i64 0, .bool false, .bool false] (0, 0) _ rfl bk_now Tryd.underlying63 rfl (by kernel_rfl)) rfl ?_
           exact ⟨ret_now, b_now⟩
        ·rw [if_neg c268] at H
         have c268b0 : (t116 == 11) = false := beq_eq_false_iff_ne.mpr c268
         have c268b1 : (t116 != 11) = true := bne_iff_ne.mpr c268
         simp only [Option.some.injEq, Prod.mk.injEq] at H
         obtain ⟨rfl, rfl, rfl, rfl, rfl, rfl⟩ := H
         have hnb345 := NB127_114.out
         have hnc345 := NB114_127.out
         have hnb346 := NB127_115.out
         have hnc346 := NB115_127.out
         have hnb347 := NB127_121.out
         have hnc347 := NB121_127.out
         have hcz348 := blk_all5 BK127.out
         have hnb349 := NB114_115.out
         have hnc349 := NB115_114.out
         have hnb350 := NB114_121.out
         have hnc350 := NB121_114.out
         have hcz351 := blk_all5 BK114.out
         have hnb352 := NB121_115.out
         have hnc352 := NB115_121.out
         have hcz353 := blk_all5 BK121.out
         have hcz354 := blk_all5 BK115.out
         go_wp2
         refine bodyPost_ret (results_ct rfl _ _ gb115 63 #[.int .i64 0, .int .i64 0, .int .i64 0, .bool false, .bool false] (0, 0) _ rfl bk_now Tryd.underlying63 rfl (by kernel_rfl)) rfl ?_
         exact ⟨ret_now, b_now⟩
     ·replace c120 := Bool.eq_false_iff.mpr c120
      subst c120
      replace H := sh_f H
      by_cases c355 : a0_1 = 0
      ·rw [if_pos c355] at H
       have c355b0 : (a0_1 == 0) = true := beq_iff_eq.mpr c355
       have c355b1 : (a0_1 != 0) = false := bne_eq_false_iff_eq.mpr c355
       clear c355
       by_cases c356 : t124 = true
       ·subst c356
        replace H := sh_t H
        by_cases c357 : t125 = true
        ·subst c357
         replace H := sh_t H
         by_cases c358 : t126 = true
         ·subst c358
          replace H := sh_t H
          simp only [Option.some.injEq, Prod.mk.injEq] at H
          obtain ⟨rfl, rfl, rfl, rfl, rfl, rfl⟩ := H
          have hnb359 := NB127_114.out
          have hnc359 := NB114_127.out
          have hnb360 := NB127_115.out
          have hnc360 := NB115_127.out
          have hnb361 := NB127_121.out
          have hnc361 := NB121_127.out
          have hcz362 := blk_all5 BK127.out
          have hnb363 := NB114_115.out
          have hnc363 := NB115_114.out
          have hnb364 := NB114_121.out
          have hnc364 := NB121_114.out
          have hcz365 := blk_all5 BK114.out
          have hnb366 := NB121_115.out
          have hnc366 := NB115_121.out
          have hcz367 := blk_all5 BK121.out
          have hcz368 := blk_all5 BK115.out
          go_wp2
          refine bodyPost_ret (results_ct rfl _ _ gb115 63 #[.int .i64 t116, .int .i64 t117, .int .i64 t118, .bool t119, .bool t120] (0, 0) _ rfl bk_now Tryd.underlying63 rfl (by kernel_rfl)) rfl ?_
          exact ⟨ret_now, b_now⟩
         ·replace c358 := Bool.eq_false_iff.mpr c358
          subst c358
          replace H := sh_f H
          by_cases c369 : a0_4 = 0
          ·rw [if_pos c369] at H
           have c369b0 : (a0_4 == 0) = true := beq_iff_eq.mpr c369
           have c369b1 : (a0_4 != 0) = false := bne_eq_false_iff_eq.mpr c369
           clear c369
           simp only [Option.some.injEq, Prod.mk.injEq] at H
           obtain ⟨rfl, rfl, rfl, rfl, rfl, rfl⟩ := H
           have hnb370 := NB127_114.out
           have hnc370 := NB114_127.out
           have hnb371 := NB127_115.out
           have hnc371 := NB115_127.out
           have hnb372 := NB127_121.out
           have hnc372 := NB121_127.out
           have hcz373 := blk_all5 BK127.out
           have hnb374 := NB114_115.out
           have hnc374 := NB115_114.out
           have hnb375 := NB114_121.out
           have hnc375 := NB121_114.out
           have hcz376 := blk_all5 BK114.out
           have hnb377 := NB121_115.out
           have hnc377 := NB115_121.out
           have hcz378 := blk_all5 BK121.out
           have hcz379 := blk_all5 BK115.out
           go_wp2
           refine bodyPost_ret (results_ct rfl _ _ gb115 63 #[.int .i64 t116, .int .i64 t117, .int .i64 t118, .bool t119, .bool t120] (0, 0) _ rfl bk_now Tryd.underlying63 rfl (by kernel_rfl)) rfl ?_
           exact ⟨ret_now, b_now⟩
          ·rw [if_neg c369] at H
           have c369b0 : (a0_4 == 0) = false := beq_eq_false_iff_ne.mpr c369
           have c369b1 : (a0_4 != 0) = true := bne_iff_ne.mpr c369
           simp only [Option.some.injEq, Prod.mk.injEq] at H
           obtain ⟨rfl, rfl, rfl, rfl, rfl, rfl⟩ := H
           have hnb380 := NB127_114.out
           have hnc380 := NB114_127.out
           have hnb381 := NB127_115.out
           have hnc381 := NB115_127.out
           have hnb382 := NB127_121.out
           have hnc382 := NB121_127.out
           have hcz383 := blk_all5 BK127.out
           have hnb384 := NB114_115.out
           have hnc384 := NB115_114.out
           have hnb385 := NB114_121.out
           have hnc385 := NB121_114.out
           have hcz386 := blk_all5 BK114.out
           have hnb387 := NB115_121.out
           have hnc387 := NB121_115.out
           have hcz388 := blk_all5 BK115.out
           go_wp2
           refine bodyPost_ret (results_ct rfl _ _ gb115 63 #[.int .i64 0, .int .i64 0, .int .i64 0, .bool false, .bool false] (0, 0) _ rfl bk_now Tryd.underlying63 rfl (by kernel_rfl)) rfl ?_
           exact ⟨ret_now, b_now⟩
        ·replace c357 := Bool.eq_false_iff.mpr c357
         subst c357
         replace H := sh_f H
         by_cases c389 : a0_3 = 0
         ·rw [if_pos c389] at H
          have c389b0 : (a0_3 == 0) = true := beq_iff_eq.mpr c389
          have c389b1 : (a0_3 != 0) = false := bne_eq_false_iff_eq.mpr c389
          clear c389
          by_cases c390 : t126 = true
          ·subst c390
           replace H := sh_t H
           simp only [Option.some.injEq, Prod.mk.injEq] at H
           obtain ⟨rfl, rfl, rfl, rfl, rfl, rfl⟩ := H
           have hnb391 := NB127_114.out
           have hnc391 := NB114_127.out
           have hnb392 := NB127_115.out
           have hnc392 := NB115_127.out
           have hnb393 := NB127_121.out
           have hnc393 := NB121_127.out
           have hcz394 := blk_all5 BK127.out
           have hnb395 := NB114_115.out
           have hnc395 := NB115_114.out
           have hnb396 := NB114_121.out
           have hnc396 := NB121_114.out
           have hcz397 := blk_all5 BK114.out
           have hnb398 := NB121_115.out
           have hnc398 := NB115_121.out
           have hcz399 := blk_all5 BK121.out
           have hcz400 := blk_all5 BK115.out
           go_wp2
           refine bodyPost_ret (results_ct rfl _ _ gb115 63 #[.int .i64 t116, .int .i64 t117, .int .i64 t118, .bool t119, .bool t120] (0, 0) _ rfl bk_now Tryd.underlying63 rfl (by kernel_rfl)) rfl ?_
           exact ⟨ret_now, b_now⟩
          ·replace c390 := Bool.eq_false_iff.mpr c390
           subst c390
           replace H := sh_f H
           by_cases c401 : a0_4 = 0
           ·rw [if_pos c401] at H
            have c401b0 : (a0_4 == 0) = true := beq_iff_eq.mpr c401
            have c401b1 : (a0_4 != 0) = false := bne_eq_false_iff_eq.mpr c401
            clear c401
            simp only [Option.some.injEq, Prod.mk.injEq] at H
            obtain ⟨rfl, rfl, rfl, rfl, rfl, rfl⟩ := H
            have hnb402 := NB127_114.out
            have hnc402 := NB114_127.out
            have hnb403 := NB127_115.out
            have hnc403 := NB115_127.out
            have hnb404 := NB127_121.out
            have hnc404 := NB121_127.out
            have hcz405 := blk_all5 BK127.out
            have hnb406 := NB114_115.out
            have hnc406 := NB115_114.out
            have hnb407 := NB114_121.out
            have hnc407 := NB121_114.out
            have hcz408 := blk_all5 BK114.out
            have hnb409 := NB121_115.out
            have hnc409 := NB115_121.out
            have hcz410 := blk_all5 BK121.out
            have hcz411 := blk_all5 BK115.out
            go_wp2
            refine bodyPost_ret (results_ct rfl _ _ gb115 63 #[.int .i64 t116, .int .i64 t117, .int .i64 t118, .bool t119, .bool t120] (0, 0) _ rfl bk_now Tryd.underlying63 rfl (by kernel_rfl)) rfl ?_
            exact ⟨ret_now, b_now⟩
           ·rw [if_neg c401] at H
            have c401b0 : (a0_4 == 0) = false := beq_eq_false_iff_ne.mpr c401
            have c401b1 : (a0_4 != 0) = true := bne_iff_ne.mpr c401
            simp only [Option.some.injEq, Prod.mk.injEq] at H
            obtain ⟨rfl, rfl, rfl, rfl, rfl, rfl⟩ := H
            have hnb412 := NB127_114.out
            have hnc412 := NB114_127.out
            have hnb413 := NB127_115.out
            have hnc413 := NB115_127.out
            have hnb414 := NB127_121.out
            have hnc414 := NB121_127.out
            have hcz415 := blk_all5 BK127.out
            have hnb416 := NB114_115.out
            have hnc416 := NB115_114.out
            have hnb417 := NB114_121.out
            have hnc417 := NB121_114.out
            have hcz418 := blk_all5 BK114.out
            have hnb419 := NB115_121.out
            have hnc419 := NB121_115.out
            have hcz420 := blk_all5 BK115.out
            go_wp2
            refine bodyPost_ret (results_ct rfl _ _ gb115 63 #[.int .i64 0, .int .i64 0, .int .i64 0, .bool false, .bool false] (0, 0) _ rfl bk_now Tryd.underlying63 rfl (by kernel_rfl)) rfl ?_
            exact ⟨ret_now, b_now⟩
         ·rw [if_neg c389] at H
          have c389b0 : (a0_3 == 0) = false := beq_eq_false_iff_ne.mpr c389
          have c389b1 : (a0_3 != 0) = true := bne_iff_ne.mpr c389
          simp only [Option.some.injEq, Prod.mk.injEq] at H
          obtain ⟨rfl, rfl, rfl, rfl, rfl, rfl⟩ := H
          have hnb421 := NB127_114.out
          have hnc421 := NB114_127.out
          have hnb422 := NB127_115.out
          have hnc422 := NB115_127.out
          have hnb423 := NB127_121.out
          have hnc423 := NB121_127.out
          have hcz424 := blk_all5 BK127.out
          have hnb425 := NB114_115.out
          have hnc425 := NB115_114.out
          have hnb426 := NB114_121.out
          have hnc426 := NB121_114.out
          have hcz427 := blk_all5 BK114.out
          have hnb428 := NB115_121.out
          have hnc428 := NB121_115.out
          have hcz429 := blk_all5 BK115.out
          go_wp2
          refine bodyPost_ret (results_ct rfl _ _ gb115 63 #[.int .i64 0, .int .i64 0, .int .i64 0, .bool false, .bool false] (0, 0) _ rfl bk_now Tryd.underlying63 rfl (by kernel_rfl)) rfl ?_
          exact ⟨ret_now, b_now⟩
       ·replace c356 := Bool.eq_false_iff.mpr c356
        subst c356
        replace H := sh_f H
        by_cases c430 : a0_2 = 0
        ·rw [if_pos c430] at H
         have c430b0 : (a0_2 == 0) = true := beq_iff_eq.mpr c430
         have c430b1 : (a0_2 != 0) = false := bne_eq_false_iff_eq.mpr c430
         clear c430
         by_cases c431 : t125 = true
         ·subst c431
          replace H := sh_t H
          by_cases c432 : t126 = true
          ·subst c432
           replace H := sh_t H
           simp only [Option.some.injEq, Prod.mk.injEq] at H
           obtain ⟨rfl, rfl, rfl, rfl, rfl, rfl⟩ := H
           have hnb433 := NB127_114.out
           have hnc433 := NB114_127.out
           have hnb434 := NB127_115.out
           have hnc434 := NB115_127.out
           have hnb435 := NB127_121.out
           have hnc435 := NB121_127.out
           have hcz436 := blk_all5 BK127.out
           have hnb437 := NB114_115.out
           have hnc437 := NB115_114.out
           have hnb438 := NB114_121.out
           have hnc438 := NB121_114.out
           have hcz439 := blk_all5 BK114.out
           have hnb440 := NB121_115.out
           have hnc440 := NB115_121.out
           have hcz441 := blk_all5 BK121.out
           have hcz442 := blk_all5 BK115.out
           go_wp2
           refine bodyPost_ret (results_ct rfl _ _ gb115 63 #[.int .i64 t116, .int .i64 t117, .int .i64 t118, .bool t119, .bool t120] (0, 0) _ rfl bk_now Tryd.underlying63 rfl (by kernel_rfl)) rfl ?_
           exact ⟨ret_now, b_now⟩
          ·replace c432 := Bool.eq_false_iff.mpr c432
           subst c432
           replace H := sh_f H
           by_cases c443 : a0_4 = 0
           ·rw [if_pos c443] at H
            have c443b0 : (a0_4 == 0) = true := beq_iff_eq.mpr c443
            have c443b1 : (a0_4 != 0) = false := bne_eq_false_iff_eq.mpr c443
            clear c443
            simp only [Option.some.injEq, Prod.mk.injEq] at H
            obtain ⟨rfl, rfl, rfl, rfl, rfl, rfl⟩ := H
            have hnb444 := NB127_114.out
            have hnc444 := NB114_127.out
            have hnb445 := NB127_115.out
            have hnc445 := NB115_127.out
            have hnb446 := NB127_121.out
            have hnc446 := NB121_127.out
            have hcz447 := blk_all5 BK127.out
            have hnb448 := NB114_115.out
            have hnc448 := NB115_114.out
            have hnb449 := NB114_121.out
            have hnc449 := NB121_114.out
            have hcz450 := blk_all5 BK114.out
            have hnb451 := NB121_115.out
            have hnc451 := NB115_121.out
            have hcz452 := blk_all5 BK121.out
            have hcz453 := blk_all5 BK115.out
            go_wp2
            refine bodyPost_ret (results_ct rfl _ _ gb115 63 #[.int .i64 t116, .int .i64 t117, .int .i64 t118, .bool t119, .bool t120] (0, 0) _ rfl bk_now Tryd.underlying63 rfl (by kernel_rfl)) rfl ?_
            exact ⟨ret_now, b_now⟩
           ·rw [if_neg c443] at H
            have c443b0 : (a0_4 == 0) = false := beq_eq_false_iff_ne.mpr c443
            have c443b1 : (a0_4 != 0) = true := bne_iff_ne.mpr c443
            simp only [Option.some.injEq, Prod.mk.injEq] at H
            obtain ⟨rfl, rfl, rfl, rfl, rfl, rfl⟩ := H
            have hnb454 := NB127_114.out
            have hnc454 := NB114_127.out
            have hnb455 := NB127_115.out
            have hnc455 := NB115_127.out
            have hnb456 := NB127_121.out
            have hnc456 := NB121_127.out
            have hcz457 := blk_all5 BK127.out
            have hnb458 := NB114_115.out
            have hnc458 := NB115_114.out
            have hnb459 := NB114_121.out
            have hnc459 := NB121_114.out
            have hcz460 := blk_all5 BK114.out
            have hnb461 := NB115_121.out
            have hnc461 := NB121_115.out
            have hcz462 := blk_all5 BK115.out
            go_wp2
            refine bodyPost_ret (results_ct rfl _ _ gb115 63 #[.int .i64 0, .int .i64 0, .int .i64 0, .bool false, .bool false] (0, 0) _ rfl bk_now Tryd.underlying63 rfl (by kernel_rfl)) rfl ?_
            exact ⟨ret_now, b_now⟩
         ·replace c431 := Bool.eq_false_iff.mpr c431
          subst c431
          replace H := sh_f H
          by_cases c463 : a0_3 = 0
          ·rw [if_pos c463] at H
           have c463b0 : (a0_3 == 0) = true := beq_iff_eq.mpr c463
           have c463b1 : (a0_3 != 0) = false := bne_eq_false_iff_eq.mpr c463
           clear c463
           by_cases c464 : t126 = true
           ·subst c464
            replace H := sh_t H
            simp only [Option.some.injEq, Prod.mk.injEq] at H
            obtain ⟨rfl, rfl, rfl, rfl, rfl, rfl⟩ := H
            have hnb465 := NB127_114.out
            have hnc465 := NB114_127.out
            have hnb466 := NB127_115.out
            have hnc466 := NB115_127.out
            have hnb467 := NB127_121.out
            have hnc467 := NB121_127.out
            have hcz468 := blk_all5 BK127.out
            have hnb469 := NB114_115.out
            have hnc469 := NB115_114.out
            have hnb470 := NB114_121.out
            have hnc470 := NB121_114.out
            have hcz471 := blk_all5 BK114.out
            have hnb472 := NB121_115.out
            have hnc472 := NB115_121.out
            have hcz473 := blk_all5 BK121.out
            have hcz474 := blk_all5 BK115.out
            go_wp2
            refine bodyPost_ret (results_ct rfl _ _ gb115 63 #[.int .i64 t116, .int .i64 t117, .int .i64 t118, .bool t119, .bool t120] (0, 0) _ rfl bk_now Tryd.underlying63 rfl (by kernel_rfl)) rfl ?_
            exact ⟨ret_now, b_now⟩
           ·replace c464 := Bool.eq_false_iff.mpr c464
            subst c464
            replace H := sh_f H
            by_cases c475 : a0_4 = 0
            ·rw [if_pos c475] at H
             have c475b0 : (a0_4 == 0) = true := beq_iff_eq.mpr c475
             have c475b1 : (a0_4 != 0) = false := bne_eq_false_iff_eq.mpr c475
             clear c475
             simp only [Option.some.injEq, Prod.mk.injEq] at H
             obtain ⟨rfl, rfl, rfl, rfl, rfl, rfl⟩ := H
             have hnb476 := NB127_114.out
             have hnc476 := NB114_127.out
             have hnb477 := NB127_115.out
             have hnc477 := NB115_127.out
             have hnb478 := NB127_121.out
             have hnc478 := NB121_127.out
             have hcz479 := blk_all5 BK127.out
             have hnb480 := NB114_115.out
             have hnc480 := NB115_114.out
             have hnb481 := NB114_121.out
             have hnc481 := NB121_114.out
             have hcz482 := blk_all5 BK114.out
             have hnb483 := NB121_115.out
             have hnc483 := NB115_121.out
             have hcz484 := blk_all5 BK121.out
             have hcz485 := blk_all5 BK115.out
             go_wp2
             refine bodyPost_ret (results_ct rfl _ _ gb115 63 #[.int .i64 t116, .int .i64 t117, .int .i64 t118, .bool t119, .bool t120] (0, 0) _ rfl bk_now Tryd.underlying63 rfl (by kernel_rfl)) rfl ?_
             exact ⟨ret_now, b_now⟩
            ·rw [if_neg c475] at H
             have c475b0 : (a0_4 == 0) = false := beq_eq_false_iff_ne.mpr c475
             have c475b1 : (a0_4 != 0) = true := bne_iff_ne.mpr c475
             simp only [Option.some.injEq, Prod.mk.injEq] at H
             obtain ⟨rfl, rfl, rfl, rfl, rfl, rfl⟩ := H
             have hnb486 := NB127_114.out
             have hnc486 := NB114_127.out
             have hnb487 := NB127_115.out
             have hnc487 := NB115_127.out
             have hnb488 := NB127_121.out
             have hnc488 := NB121_127.out
             have hcz489 := blk_all5 BK127.out
             have hnb490 := NB114_115.out
             have hnc490 := NB115_114.out
             have hnb491 := NB114_121.out
             have hnc491 := NB121_114.out
             have hcz492 := blk_all5 BK114.out
             have hnb493 := NB115_121.out
             have hnc493 := NB121_115.out
             have hcz494 := blk_all5 BK115.out
             go_wp2
             refine bodyPost_ret (results_ct rfl _ _ gb115 63 #[.int .i64 0, .int .i64 0, .int .i64 0, .bool false, .bool false] (0, 0) _ rfl bk_now Tryd.underlying63 rfl (by kernel_rfl)) rfl ?_
             exact ⟨ret_now, b_now⟩
          ·rw [if_neg c463] at H
           have c463b0 : (a0_3 == 0) = false := beq_eq_false_iff_ne.mpr c463
           have c463b1 : (a0_3 != 0) = true := bne_iff_ne.mpr c463
           simp only [Option.some.injEq, Prod.mk.injEq] at H
           obtain ⟨rfl, rfl, rfl, rfl, rfl, rfl⟩ := H
           have hnb495 := NB127_114.out
           have hnc495 := NB114_127.out
           have hnb496 := NB127_115.out
           have hnc496 := NB115_127.out
           have hnb497 := NB127_121.out
           have hnc497 := NB121_127.out
           have hcz498 := blk_all5 BK127.out
           have hnb499 := NB114_115.out
           have hnc499 := NB115_114.out
           have hnb500 := NB114_121.out
           have hnc500 := NB121_114.out
           have hcz501 := blk_all5 BK114.out
           have hnb502 := NB115_121.out
           have hnc502 := NB121_115.out
           have hcz503 := blk_all5 BK115.out
           go_wp2
           refine bodyPost_ret (results_ct rfl _ _ gb115 63 #[.int .i64 0, .int .i64 0, .int .i64 0, .bool false, .bool false] (0, 0) _ rfl bk_now Tryd.underlying63 rfl (by kernel_rfl)) rfl ?_
           exact ⟨ret_now, b_now⟩
        ·rw [if_neg c430] at H
         have c430b0 : (a0_2 == 0) = false := beq_eq_false_iff_ne.mpr c430
         have c430b1 : (a0_2 != 0) = true := bne_iff_ne.mpr c430
         by_cases c504 : t116 = 11
         ·rw [if_pos c504] at H
          have c504b0 : (t116 == 11) = true := beq_iff_eq.mpr c504
          have c504b1 : (t116 != 11) = false := bne_eq_false_iff_eq.mpr c504
          clear c504
          by_cases c505 : t125 = true
          ·subst c505
           replace H := sh_t H
           by_cases c506 : t126 = true
           ·subst c506
            replace H := sh_t H
            simp only [Option.some.injEq, Prod.mk.injEq] at H
            obtain ⟨rfl, rfl, rfl, rfl, rfl, rfl⟩ := H
            have hnb507 := NB127_114.out
            have hnc507 := NB114_127.out
            have hnb508 := NB127_115.out
            have hnc508 := NB115_127.out
            have hnb509 := NB127_121.out
            have hnc509 := NB121_127.out
            have hcz510 := blk_all5 BK127.out
            have hnb511 := NB114_115.out
            have hnc511 := NB115_114.out
            have hnb512 := NB114_121.out
            have hnc512 := NB121_114.out
            have hcz513 := blk_all5 BK114.out
            have hnb514 := NB121_115.out
            have hnc514 := NB115_121.out
            have hcz515 := blk_all5 BK121.out
            have hcz516 := blk_all5 BK115.out
            go_wp2
            refine bodyPost_ret (results_ct rfl _ _ gb115 63 #[.int .i64 t116, .int .i64 t117, .int .i64 t118, .bool t119, .bool t120] (0, 0) _ rfl bk_now Tryd.underlying63 rfl (by kernel_rfl)) rfl ?_
            exact ⟨ret_now, b_now⟩
           ·replace c506 := Bool.eq_false_iff.mpr c506
            subst c506
            replace H := sh_f H
            by_cases c517 : a0_4 = 0
            ·rw [if_pos c517] at H
             have c517b0 : (a0_4 == 0) = true := beq_iff_eq.mpr c517
             have c517b1 : (a0_4 != 0) = false := bne_eq_false_iff_eq.mpr c517
             clear c517
             simp only [Option.some.injEq, Prod.mk.injEq] at H
             obtain ⟨rfl, rfl, rfl, rfl, rfl, rfl⟩ := H
             have hnb518 := NB127_114.out
             have hnc518 := NB114_127.out
             have hnb519 := NB127_115.out
             have hnc519 := NB115_127.out
             have hnb520 := NB127_121.out
             have hnc520 := NB121_127.out
             have hcz521 := blk_all5 BK127.out
             have hnb522 := NB114_115.out
             have hnc522 := NB115_114.out
             have hnb523 := NB114_121.out
             have hnc523 := NB121_114.out
             have hcz524 := blk_all5 BK114.out
             have hnb525 := NB121_115.out
             have hnc525 := NB115_121.out
             have hcz526 := blk_all5 BK121.out
             have hcz527 := blk_all5 BK115.out
             go_wp2
             refine bodyPost_ret (results_ct rfl _ _ gb115 63 #[.int .i64 t116, .int .i64 t117, .int .i64 t118, .bool t119, .bool t120] (0, 0) _ rfl bk_now Tryd.underlying63 rfl (by kernel_rfl)) rfl ?_
             exact ⟨ret_now, b_now⟩
            ·rw [if_neg c517] at H
             have c517b0 : (a0_4 == 0) = false := beq_eq_false_iff_ne.mpr c517
             have c517b1 : (a0_4 != 0) = true := bne_iff_ne.mpr c517
             simp only [Option.some.injEq, Prod.mk.injEq] at H
             obtain ⟨rfl, rfl, rfl, rfl, rfl, rfl⟩ := H
             have hnb528 := NB127_114.out
             have hnc528 := NB114_127.out
             have hnb529 := NB127_115.out
             have hnc529 := NB115_127.out
             have hnb530 := NB127_121.out
             have hnc530 := NB121_127.out
             have hcz531 := blk_all5 BK127.out
             have hnb532 := NB114_115.out
             have hnc532 := NB115_114.out
             have hnb533 := NB114_121.out
             have hnc533 := NB121_114.out
             have hcz534 := blk_all5 BK114.out
             have hnb535 := NB121_115.out
             have hnc535 := NB115_121.out
             have hcz536 := blk_all5 BK121.out
             have hcz537 := blk_all5 BK115.out
             go_wp2
             refine bodyPost_ret (results_ct rfl _ _ gb115 63 #[.int .i64 0, .int .i64 0, .int .i64 0, .bool false, .bool false] (0, 0) _ rfl bk_now Tryd.underlying63 rfl (by kernel_rfl)) rfl ?_
             exact ⟨ret_now, b_now⟩
          ·replace c505 := Bool.eq_false_iff.mpr c505
           subst c505
           replace H := sh_f H
           by_cases c538 : a0_3 = 0
           ·rw [if_pos c538] at H
            have c538b0 : (a0_3 == 0) = true := beq_iff_eq.mpr c538
            have c538b1 : (a0_3 != 0) = false := bne_eq_false_iff_eq.mpr c538
            clear c538
            by_cases c539 : t126 = true
            ·subst c539
             replace H := sh_t H
             simp only [Option.some.injEq, Prod.mk.injEq] at H
             obtain ⟨rfl, rfl, rfl, rfl, rfl, rfl⟩ := H
             have hnb540 := NB127_114.out
             have hnc540 := NB114_127.out
             have hnb541 := NB127_115.out
             have hnc541 := NB115_127.out
             have hnb542 := NB127_121.out
             have hnc542 := NB121_127.out
             have hcz543 := blk_all5 BK127.out
             have hnb544 := NB114_115.out
             have hnc544 := NB115_114.out
             have hnb545 := NB114_121.out
             have hnc545 := NB121_114.out
             have hcz546 := blk_all5 BK114.out
             have hnb547 := NB121_115.out
             have hnc547 := NB115_121.out
             have hcz548 := blk_all5 BK121.out
             have hcz549 := blk_all5 BK115.out
             go_wp2
             refine bodyPost_ret (results_ct rfl _ _ gb115 63 #[.int .i64 t116, .int .i64 t117, .int .i64 t118, .bool t119, .bool t120] (0, 0) _ rfl bk_now Tryd.underlying63 rfl (by kernel_rfl)) rfl ?_
             exact ⟨ret_now, b_now⟩
            ·replace c539 := Bool.eq_false_iff.mpr c539
             subst c539
             replace H := sh_f H
             by_cases c550 : a0_4 = 0
             ·rw [if_pos c550] at H
              have c550b0 : (a0_4 == 0) = true := beq_iff_eq.mpr c550
              have c550b1 : (a0_4 != 0) = false := bne_eq_false_iff_eq.mpr c550
              clear c550
              simp only [Option.some.injEq, Prod.mk.injEq] at H
              obtain ⟨rfl, rfl, rfl, rfl, rfl, rfl⟩ := H
              have hnb551 := NB127_114.out
              have hnc551 := NB114_127.out
              have hnb552 := NB127_115.out
              have hnc552 := NB115_127.out
              have hnb553 := NB127_121.out
              have hnc553 := NB121_127.out
              have hcz554 := blk_all5 BK127.out
              have hnb555 := NB114_115.out
              have hnc555 := NB115_114.out
              have hnb556 := NB114_121.out
              have hnc556 := NB121_114.out
              have hcz557 := blk_all5 BK114.out
              have hnb558 := NB121_115.out
              have hnc558 := NB115_121.out
              have hcz559 := blk_all5 BK121.out
              have hcz560 := blk_all5 BK115.out
              go_wp2
              refine bodyPost_ret (results_ct rfl _ _ gb115 63 #[.int .i64 t116, .int .i64 t117, .int .i64 t118, .bool t119, .bool t120] (0, 0) _ rfl bk_now Tryd.underlying63 rfl (by kernel_rfl)) rfl ?_
              exact ⟨ret_now, b_now⟩
             ·rw [if_neg c550] at H
              have c550b0 : (a0_4 == 0) = false := beq_eq_false_iff_ne.mpr c550
              have c550b1 : (a0_4 != 0) = true := bne_iff_ne.mpr c550
              simp only [Option.some.injEq, Prod.mk.injEq] at H
              obtain ⟨rfl, rfl, rfl, rfl, rfl, rfl⟩ := H
              have hnb561 := NB127_114.out
              have hnc561 := NB114_127.out
              have hnb562 := NB127_115.out
              have hnc562 := NB115_127.out
              have hnb563 := NB127_121.out
              have hnc563 := NB121_127.out
              have hcz564 := blk_all5 BK127.out
              have hnb565 := NB114_115.out
              have hnc565 := NB115_114.out
              have hnb566 := NB114_121.out
              have hnc566 := NB121_114.out
              have hcz567 := blk_all5 BK114.out
              have hnb568 := NB121_115.out
              have hnc568 := NB115_121.out
              have hcz569 := blk_all5 BK121.out
              have hcz570 := blk_all5 BK115.out
              go_wp2
              refine bodyPost_ret (results_ct rfl _ _ gb115 63 #[.int .i64 0, .int .i64 0, .int .i64 0, .bool false, .bool false] (0, 0) _ rfl bk_now Tryd.underlying63 rfl (by kernel_rfl)) rfl ?_
              exact ⟨ret_now, b_now⟩
           ·rw [if_neg c538] at H
            have c538b0 : (a0_3 == 0) = false := beq_eq_false_iff_ne.mpr c538
            have c538b1 : (a0_3 != 0) = true := bne_iff_ne.mpr c538
            simp only [Option.some.injEq, Prod.mk.injEq] at H
            obtain ⟨rfl, rfl, rfl, rfl, rfl, rfl⟩ := H
            have hnb571 := NB127_114.out
            have hnc571 := NB114_127.out
            have hnb572 := NB127_115.out
            have hnc572 := NB115_127.out
            have hnb573 := NB127_121.out
            have hnc573 := NB121_127.out
            have hcz574 := blk_all5 BK127.out
            have hnb575 := NB114_115.out
            have hnc575 := NB115_114.out
            have hnb576 := NB114_121.out
            have hnc576 := NB121_114.out
            have hcz577 := blk_all5 BK114.out
            have hnb578 := NB121_115.out
            have hnc578 := NB115_121.out
            have hcz579 := blk_all5 BK121.out
            have hcz580 := blk_all5 BK115.out
            go_wp2
            refine bodyPost_ret (results_ct rfl _ _ gb115 63 #[.int .i64 0, .int .i64 0, .int .i64 0, .bool false, .bool false] (0, 0) _ rfl bk_now Tryd.underlying63 rfl (by kernel_rfl)) rfl ?_
            exact ⟨ret_now, b_now⟩
         ·rw [if_neg c504] at H
          have c504b0 : (t116 == 11) = false := beq_eq_false_iff_ne.mpr c504
          have c504b1 : (t116 != 11) = true := bne_iff_ne.mpr c504
          simp only [Option.some.injEq, Prod.mk.injEq] at H
          obtain ⟨rfl, rfl, rfl, rfl, rfl, rfl⟩ := H
          have hnb581 := NB127_114.out
          have hnc581 := NB114_127.out
          have hnb582 := NB127_115.out
          have hnc582 := NB115_127.out
          have hnb583 := NB127_121.out
          have hnc583 := NB121_127.out
          have hcz584 := blk_all5 BK127.out
          have hnb585 := NB114_115.out
          have hnc585 := NB115_114.out
          have hnb586 := NB114_121.out
          have hnc586 := NB121_114.out
          have hcz587 := blk_all5 BK114.out
          have hnb588 := NB121_115.out
          have hnc588 := NB115_121.out
          have hcz589 := blk_all5 BK121.out
          have hcz590 := blk_all5 BK115.out
          go_wp2
          refine bodyPost_ret (results_ct rfl _ _ gb115 63 #[.int .i64 0, .int .i64 0, .int .i64 0, .bool false, .bool false] (0, 0) _ rfl bk_now Tryd.underlying63 rfl (by kernel_rfl)) rfl ?_
          exact ⟨ret_now, b_now⟩
      ·rw [if_neg c355] at H
       have c355b0 : (a0_1 == 0) = false := beq_eq_false_iff_ne.mpr c355
       have c355b1 : (a0_1 != 0) = true := bne_iff_ne.mpr c355
       simp only [Option.some.injEq, Prod.mk.injEq] at H
       obtain ⟨rfl, rfl, rfl, rfl, rfl, rfl⟩ := H
       have hnb591 := NB127_114.out
       have hnc591 := NB114_127.out
       have hnb592 := NB127_115.out
       have hnc592 := NB115_127.out
       have hnb593 := NB127_121.out
       have hnc593 := NB121_127.out
       have hcz594 := blk_all5 BK127.out
       have hnb595 := NB114_115.out
       have hnc595 := NB115_114.out
       have hnb596 := NB114_121.out
       have hnc596 := NB121_114.out
       have hcz597 := blk_all5 BK114.out
       have hnb598 := NB115_121.out
       have hnc598 := NB121_115.out
       have hcz599 := blk_all5 BK115.out
       go_wp2
       refine bodyPost_ret (results_ct rfl _ _ gb115 63 #[.int .i64 0, .int .i64 0, .int .i64 0, .bool false, .bool false] (0, 0) _ rfl bk_now Tryd.underlying63 rfl (by kernel_rfl)) rfl ?_
       exact ⟨ret_now, b_now⟩

end Go.Proofs.YtkjcjlegokdpdaaDoor.P
